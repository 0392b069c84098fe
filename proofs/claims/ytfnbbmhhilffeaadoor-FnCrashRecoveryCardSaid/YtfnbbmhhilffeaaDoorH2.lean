/- Appending a record to a log, in both packages. -/
import Derived.Test.YtfnbbmhhilffeaaDoorH1
import Derived.Deep.RegionHeld3
import Derived.Deep.RegionWith
import Derived.Deep.DrawnRows
import Derived.IntWalk
namespace Go.Proofs.YtfnbbmhhilffeaaDoor
open Go.RowKit

attribute [local go_sem ↓] Go.wp_at_zero Go.wp_at_succ
def appF (l : LogR) (e : RecR) : LogR × Int := if l.ok && e.ok then (if l.n = 60 then (l, 2) else (⟨l.d, l.p ++ lineV l.n.toNat e, l.n + 1⟩, 0)) else (l, 1)
theorem LogR.count {l : LogR} (h : l.ok = true) : 0 ≤ l.n ∧ l.n ≤ 60 := by
  obtain ⟨_, h2, _⟩ := l.ok_iff.1 h
  have := opensF_len (bl (l.d ++ l.p))
  unfold LogR.recs at h2
  omega
theorem lineV_size {e : RecR} (h : e.ok = true) {k : Nat} (hk : k < 60) : (lineV k e).size ≤ 400 := by
  have h1 := line_len h k hk
  have h2 := bl_len (lineV k e)
  rw [lineV_bytes, List.length_append, List.length_singleton] at h2
  omega
set_option maxHeartbeats 2000000 in
theorem i_AppendRecord (l : LogR) (e : RecR) (w : World) (h1 : l.d.size ≤ 2097152) (h2 : l.p.size ≤ 2097152) (h3 : e.c.size ≤ maxLen) (h4 : e.r.size ≤ maxLen) (hE : Env w) :
    Calls Tryd.prog 8 #[l.val, e.val] w fun e' w' => e' = .returned (.tuple #[(appF l e).1.val, .int .i64 (appF l e).2]) ∧ ∃ g, w' = plus w g := by
  have HE := hid hE
  clear hE
  cases ho : l.ok
  · have HF : Hid (appF l e = (l, 1)) := hid (by simp [appF, ho])
    have HO := hid ho
    clear ho
    go_enter Tryd.func8, Tryd.ntmps8
    go_wp2_with fail
    refine (i_IsValidLog l _ HO.out _ h1 h2 (HE.out.grew (by (repeat (first | with_reducible exact grew_refl _ | with_reducible assumption | with_reducible refine grew_split ?_ | with_reducible refine grew_mk ?_ | with_reducible refine grew_plus ?_ | with_reducible refine grew_alloc ?_ | with_reducible refine grew_drew ?_ | (with_reducible refine grew_set ?_ (by first | exact Nat.le_refl _ | omega | (simp [go_sem]; done) | (simp [go_sem]; omega)))))))).mono ?_
    (rintro e w' ⟨rfl, gx, rfl⟩)
    go_wp2_with fail
    refine bodyPost_ret (v := .tuple #[l.val, .int .i64 1]) (by simp [results, Tryd.results8, go_sem]) rfl ?_
    rw [HF.out]
    exact ⟨rfl, by (repeat (first | with_reducible exact grew_refl _ | with_reducible assumption | with_reducible refine grew_split ?_ | with_reducible refine grew_mk ?_ | with_reducible refine grew_plus ?_ | with_reducible refine grew_alloc ?_ | with_reducible refine grew_drew ?_ | (with_reducible refine grew_set ?_ (by first | exact Nat.le_refl _ | omega | (simp [go_sem]; done) | (simp [go_sem]; omega)))))⟩
  have HO := hid ho
  obtain ⟨c0, c60⟩ := LogR.count ho
  clear ho
  cases he : e.ok
  · have HF : Hid (appF l e = (l, 1)) := hid (by simp [appF, he])
    have HQ := hid he
    clear he
    go_enter Tryd.func8, Tryd.ntmps8
    go_wp2_with fail
    refine (i_IsValidLog l _ HO.out _ h1 h2 (HE.out.grew (by (repeat (first | with_reducible exact grew_refl _ | with_reducible assumption | with_reducible refine grew_split ?_ | with_reducible refine grew_mk ?_ | with_reducible refine grew_plus ?_ | with_reducible refine grew_alloc ?_ | with_reducible refine grew_drew ?_ | (with_reducible refine grew_set ?_ (by first | exact Nat.le_refl _ | omega | (simp [go_sem]; done) | (simp [go_sem]; omega)))))))).mono ?_
    (rintro e w' ⟨rfl, gx, rfl⟩)
    go_wp2_with fail
    refine (i_IsValidRecord e.c e.r _ HQ.out _ h3 h4).mono ?_
    (rintro e w' ⟨rfl, gx, rfl⟩)
    go_wp2_with fail
    refine bodyPost_ret (v := .tuple #[l.val, .int .i64 1]) (by simp [results, Tryd.results8, go_sem]) rfl ?_
    rw [HF.out]
    exact ⟨rfl, by (repeat (first | with_reducible exact grew_refl _ | with_reducible assumption | with_reducible refine grew_split ?_ | with_reducible refine grew_mk ?_ | with_reducible refine grew_plus ?_ | with_reducible refine grew_alloc ?_ | with_reducible refine grew_drew ?_ | (with_reducible refine grew_set ?_ (by first | exact Nat.le_refl _ | omega | (simp [go_sem]; done) | (simp [go_sem]; omega)))))⟩
  have HQ := hid he
  by_cases hn : l.n = 60
  · have HF : Hid (appF l e = (l, 2)) := hid (by simp [appF, he, HO.out, hn])
    have hn' : (l.n == 60) = true := by simp [hn]
    clear he hn
    go_enter Tryd.func8, Tryd.ntmps8
    go_wp2_with fail
    refine (i_IsValidLog l _ HO.out _ h1 h2 (HE.out.grew (by (repeat (first | with_reducible exact grew_refl _ | with_reducible assumption | with_reducible refine grew_split ?_ | with_reducible refine grew_mk ?_ | with_reducible refine grew_plus ?_ | with_reducible refine grew_alloc ?_ | with_reducible refine grew_drew ?_ | (with_reducible refine grew_set ?_ (by first | exact Nat.le_refl _ | omega | (simp [go_sem]; done) | (simp [go_sem]; omega)))))))).mono ?_
    (rintro e w' ⟨rfl, gx, rfl⟩)
    go_wp2_with fail
    refine (i_IsValidRecord e.c e.r _ HQ.out _ h3 h4).mono ?_
    (rintro e w' ⟨rfl, gx, rfl⟩)
    go_wp2_with fail
    refine bodyPost_ret (v := .tuple #[l.val, .int .i64 2]) (by simp [results, Tryd.results8, go_sem]) rfl ?_
    rw [HF.out]
    exact ⟨rfl, by (repeat (first | with_reducible exact grew_refl _ | with_reducible assumption | with_reducible refine grew_split ?_ | with_reducible refine grew_mk ?_ | with_reducible refine grew_plus ?_ | with_reducible refine grew_alloc ?_ | with_reducible refine grew_drew ?_ | (with_reducible refine grew_set ?_ (by first | exact Nat.le_refl _ | omega | (simp [go_sem]; done) | (simp [go_sem]; omega)))))⟩
  have HF : Hid (appF l e = (⟨l.d, l.p ++ lineV l.n.toNat e, l.n + 1⟩, 0)) := hid (by simp [appF, he, HO.out, hn])
  have hn' : (l.n == 60) = false := by simp [hn]
  have HL := hid (fun (k : Nat) (hk : k < 60) W (h : Env W) => i_encodeRecord k e W hk he h)
  have HZ := hid (fun (k : Nat) (hk : k < 60) => lineV_size he hk)
  clear he
  obtain ⟨d, p, n⟩ := l
  obtain ⟨c, r⟩ := e
  simp only at h1 h2 h3 h4 c0 c60 hn
  obtain ⟨m, rfl⟩ := Int.eq_ofNat_of_zero_le c0
  have hm : m < 60 := by omega
  have HF2 : Hid (appF ⟨d, p, (m : Int)⟩ ⟨c, r⟩ = (⟨d, p ++ lineV m ⟨c, r⟩, (m : Int) + 1⟩, 0)) := HF
  have z1 := HZ.out m hm
  have hn' : ((m : Int) == 60) = false := by simp; omega
  have hsum : ¬ 9223372036854775807 < p.size + (lineV m ⟨c, r⟩).size := by omega
  have hcnt : IntKind.i64.wrap ((m : Int) + 1) = (m : Int) + 1 := IntWalk.i64_in _ (by omega)
  clear hn HF
  go_enter Tryd.func8, Tryd.ntmps8
  go_wp2_with fail
  refine (i_IsValidLog _ _ HO.out _ h1 h2 (HE.out.grew (by (repeat (first | with_reducible exact grew_refl _ | with_reducible assumption | with_reducible refine grew_split ?_ | with_reducible refine grew_mk ?_ | with_reducible refine grew_plus ?_ | with_reducible refine grew_alloc ?_ | with_reducible refine grew_drew ?_ | (with_reducible refine grew_set ?_ (by first | exact Nat.le_refl _ | omega | (simp [go_sem]; done) | (simp [go_sem]; omega)))))))).mono ?_
  (rintro e w' ⟨rfl, gx, rfl⟩)
  go_wp2_with fail
  refine (i_IsValidRecord c r _ HQ.out _ h3 h4).mono ?_
  (rintro e w' ⟨rfl, gx, rfl⟩)
  go_wp2_with fail
  have KEEP : Hid (∀ W : World, (∃ g, W = plus ((w.alloc (.cells #[.string d, .string p, .int .i64 (m : Int)] 25)).alloc (.cells #[.string c, .string r] 27)) g) → ((fun w' => w'.cell? ⟨w.heap.size, 0, none⟩ = some (.string d) ∧ w'.cell? ⟨w.heap.size, 1, none⟩ = some (.string p) ∧ w'.cell? ⟨w.heap.size, 2, none⟩ = some (.int .i64 (m : Int)) ∧ w'.cell? ⟨w.heap.size + 1, 0, none⟩ = some (.string c) ∧ w'.cell? ⟨w.heap.size + 1, 1, none⟩ = some (.string r))) W) := hid (by
    rintro W ⟨g, rfl⟩
    simp [go_sem])
  go_region_held3 (fun w' => w'.cell? ⟨w.heap.size, 0, none⟩ = some (.string d) ∧ w'.cell? ⟨w.heap.size, 1, none⟩ = some (.string p) ∧ w'.cell? ⟨w.heap.size, 2, none⟩ = some (.int .i64 (m : Int)) ∧ w'.cell? ⟨w.heap.size + 1, 0, none⟩ = some (.string c) ∧ w'.cell? ⟨w.heap.size + 1, 1, none⟩ = some (.string r)) (exact KEEP.out _ (by (repeat (first | with_reducible exact grew_refl _ | with_reducible assumption | with_reducible refine grew_split ?_ | with_reducible refine grew_mk ?_ | with_reducible refine grew_plus ?_ | with_reducible refine grew_alloc ?_ | with_reducible refine grew_drew ?_ | (with_reducible refine grew_set ?_ (by first | exact Nat.le_refl _ | omega | (simp [go_sem]; done) | (simp [go_sem]; omega))))))) ((go_at_call 30; refine (HL.out m hm _ (HE.out.grew (by (repeat (first | with_reducible exact grew_refl _ | with_reducible assumption | with_reducible refine grew_split ?_ | with_reducible refine grew_mk ?_ | with_reducible refine grew_plus ?_ | with_reducible refine grew_alloc ?_ | with_reducible refine grew_drew ?_ | (with_reducible refine grew_set ?_ (by first | exact Nat.le_refl _ | omega | (simp [go_sem]; done) | (simp [go_sem]; omega)))))))).mono ?_; (rintro e w' ⟨rfl, gx, rfl⟩)))
  go_wp2_with fail
  refine bodyPost_ret (v := .tuple #[LogR.val ⟨d, p ++ lineV m ⟨c, r⟩, (m : Int) + 1⟩, .int .i64 0]) (by simp [results, Tryd.results8, go_sem]) rfl ?_
  rw [HF2.out]
  exact ⟨rfl, by (repeat (first | with_reducible exact grew_refl _ | with_reducible assumption | with_reducible refine grew_split ?_ | with_reducible refine grew_mk ?_ | with_reducible refine grew_plus ?_ | with_reducible refine grew_alloc ?_ | with_reducible refine grew_drew ?_ | (with_reducible refine grew_set ?_ (by first | exact Nat.le_refl _ | omega | (simp [go_sem]; done) | (simp [go_sem]; omega)))))⟩
set_option maxHeartbeats 2000000 in
theorem s_AppendRecord (l : LogR) (e : RecR) (w : World) (h1 : l.d.size ≤ 2097152) (h2 : l.p.size ≤ 2097152) (h3 : e.c.size ≤ maxLen) (h4 : e.r.size ≤ maxLen) (hE : Env w) :
    Calls Tryd.prog 9 #[l.val, e.val] w fun e' w' => e' = .returned (.tuple #[(appF l e).1.val, .int .i64 (appF l e).2]) ∧ ∃ g, w' = plus w g := by
  have HE := hid hE
  clear hE
  cases ho : l.ok
  · have HF : Hid (appF l e = (l, 1)) := hid (by simp [appF, ho])
    have HO := hid ho
    clear ho
    go_enter Tryd.func9, Tryd.ntmps9
    go_wp2_with fail
    refine (s_l27Log l _ HO.out _ h1 h2).mono ?_
    (rintro e w' ⟨rfl, gx, rfl⟩)
    go_wp2_with fail
    refine bodyPost_ret (v := .tuple #[l.val, .int .i64 1]) (by simp [results, Tryd.results9, go_sem]) rfl ?_
    rw [HF.out]
    exact ⟨rfl, by (repeat (first | with_reducible exact grew_refl _ | with_reducible assumption | with_reducible refine grew_split ?_ | with_reducible refine grew_mk ?_ | with_reducible refine grew_plus ?_ | with_reducible refine grew_alloc ?_ | with_reducible refine grew_drew ?_ | (with_reducible refine grew_set ?_ (by first | exact Nat.le_refl _ | omega | (simp [go_sem]; done) | (simp [go_sem]; omega)))))⟩
  have HO := hid ho
  obtain ⟨c0, c60⟩ := LogR.count ho
  clear ho
  cases he : e.ok
  · have HF : Hid (appF l e = (l, 1)) := hid (by simp [appF, he])
    have HQ := hid he
    clear he
    go_enter Tryd.func9, Tryd.ntmps9
    go_wp2_with fail
    refine (s_l27Log l _ HO.out _ h1 h2).mono ?_
    (rintro e w' ⟨rfl, gx, rfl⟩)
    go_wp2_with fail
    refine (s_l27Good e.c e.r _ HQ.out _ h3 h4).mono ?_
    (rintro e w' ⟨rfl, gx, rfl⟩)
    go_wp2_with fail
    refine bodyPost_ret (v := .tuple #[l.val, .int .i64 1]) (by simp [results, Tryd.results9, go_sem]) rfl ?_
    rw [HF.out]
    exact ⟨rfl, by (repeat (first | with_reducible exact grew_refl _ | with_reducible assumption | with_reducible refine grew_split ?_ | with_reducible refine grew_mk ?_ | with_reducible refine grew_plus ?_ | with_reducible refine grew_alloc ?_ | with_reducible refine grew_drew ?_ | (with_reducible refine grew_set ?_ (by first | exact Nat.le_refl _ | omega | (simp [go_sem]; done) | (simp [go_sem]; omega)))))⟩
  have HQ := hid he
  by_cases hn : l.n = 60
  · have HF : Hid (appF l e = (l, 2)) := hid (by simp [appF, he, HO.out, hn])
    have hn' : (l.n == 60) = true := by simp [hn]
    clear he hn
    go_enter Tryd.func9, Tryd.ntmps9
    go_wp2_with fail
    refine (s_l27Log l _ HO.out _ h1 h2).mono ?_
    (rintro e w' ⟨rfl, gx, rfl⟩)
    go_wp2_with fail
    refine (s_l27Good e.c e.r _ HQ.out _ h3 h4).mono ?_
    (rintro e w' ⟨rfl, gx, rfl⟩)
    go_wp2_with fail
    refine bodyPost_ret (v := .tuple #[l.val, .int .i64 2]) (by simp [results, Tryd.results9, go_sem]) rfl ?_
    rw [HF.out]
    exact ⟨rfl, by (repeat (first | with_reducible exact grew_refl _ | with_reducible assumption | with_reducible refine grew_split ?_ | with_reducible refine grew_mk ?_ | with_reducible refine grew_plus ?_ | with_reducible refine grew_alloc ?_ | with_reducible refine grew_drew ?_ | (with_reducible refine grew_set ?_ (by first | exact Nat.le_refl _ | omega | (simp [go_sem]; done) | (simp [go_sem]; omega)))))⟩
  have HF : Hid (appF l e = (⟨l.d, l.p ++ lineV l.n.toNat e, l.n + 1⟩, 0)) := hid (by simp [appF, he, HO.out, hn])
  have hn' : (l.n == 60) = false := by simp [hn]
  have HP := hid (RecR.parts he)
  have HZ := hid (fun (k : Nat) (hk : k < 60) => lineV_size he hk)
  clear he
  obtain ⟨d, p, n⟩ := l
  obtain ⟨c, r⟩ := e
  simp only at h1 h2 h3 h4 c0 c60 hn
  obtain ⟨m, rfl⟩ := Int.eq_ofNat_of_zero_le c0
  have hm : m < 60 := by omega
  have HF2 : Hid (appF ⟨d, p, (m : Int)⟩ ⟨c, r⟩ = (⟨d, p ++ lineV m ⟨c, r⟩, (m : Int) + 1⟩, 0)) := HF
  have z1 := HZ.out m hm
  have hn' : ((m : Int) == 60) = false := by simp; omega
  have hsum : ¬ 9223372036854775807 < p.size + (lineV m ⟨c, r⟩).size := by omega
  have hcnt : IntKind.i64.wrap ((m : Int) + 1) = (m : Int) + 1 := IntWalk.i64_in _ (by omega)
  clear hn HF
  go_enter Tryd.func9, Tryd.ntmps9
  go_wp2_with fail
  refine (s_l27Log _ _ HO.out _ h1 h2).mono ?_
  (rintro e w' ⟨rfl, gx, rfl⟩)
  go_wp2_with fail
  refine (s_l27Good c r _ HQ.out _ h3 h4).mono ?_
  (rintro e w' ⟨rfl, gx, rfl⟩)
  go_wp2_with fail
  have o2 : c.size ≤ 160 := HP.out.2.1
  have o3 : r.size ≤ 200 := HP.out.2.2.2.2.2
  go_region_with (go_at_call 33; refine (s_l27Line m ⟨c, r⟩ _ (by omega) (by simp only; omega) (by simp only; omega)).mono ?_; (rintro e w' ⟨rfl, gx, rfl⟩))
  all_goals
    go_wp2_with fail
    refine bodyPost_ret (v := .tuple #[LogR.val ⟨d, p ++ lineV m ⟨c, r⟩, (m : Int) + 1⟩, .int .i64 0]) (by simp [results, Tryd.results9, go_sem]) rfl ?_
    rw [HF2.out]
    exact ⟨rfl, by (repeat (first | with_reducible exact grew_refl _ | with_reducible assumption | with_reducible refine grew_split ?_ | with_reducible refine grew_mk ?_ | with_reducible refine grew_plus ?_ | with_reducible refine grew_alloc ?_ | with_reducible refine grew_drew ?_ | (with_reducible refine grew_set ?_ (by first | exact Nat.le_refl _ | omega | (simp [go_sem]; done) | (simp [go_sem]; omega)))))⟩
end Go.Proofs.YtfnbbmhhilffeaaDoor
