import Derived.Test.YtecghfcgahgfiaaGreatDoorP10
import Derived.Deep.RegionHeld3
import Derived.Deep.RegionWith
import Derived.Deep.DrawnRows
import Derived.IntWalk
import Derived.Test.YtecghfcgahgfiaaGreatDoorP5
import Derived.Test.YtecghfcgahgfiaaGreatDoorP12
import Derived.Test.YtecghfcgahgfiaaGreatDoorP13
import Derived.Test.YtecghfcgahgfiaaGreatDoorP17
import Derived.Lib.Join
import Derived.Deep.RegionLaw
import Derived.Lib.SliceRun
/- Appending a record to a log, in both packages. -/
namespace Go.Proofs.YtecghfcgahgfiaaGreatDoor
open Go.RowKit

attribute [local go_sem ↓] Go.wp_at_zero Go.wp_at_succ
def appF (l : LogR) (e : RecR) : LogR × Int := if l.ok && e.ok then (if l.n = 60 then (l, 2) else (⟨l.d, l.p ++ lineV l.n.toNat e, l.n + 1⟩, 0)) else (l, 1)
theorem LogR.count {l : LogR} (h : l.ok = true) : 0 ≤ l.n ∧ l.n ≤ 60 := by
  obtain ⟨_, h2, _⟩ := l.ok_iff.1 h
  have := opensF_len (bl (l.d ++ l.p))
  unfold LogR.recs at h2
  omega
theorem lineV_size {e : RecR} (h : e.ok = true) {k : Nat} (hk : k < 60) : (lineV k e).size ≤ 400 := by
  have h1 := line_len h k hk
  have h2 := bl_len (lineV k e)
  rw [lineV_bytes, List.length_append, List.length_singleton] at h2
  omega
set_option maxHeartbeats 2000000 in
theorem i_AppendRecord (l : LogR) (e : RecR) (w : World) (h1 : l.d.size ≤ 2097152) (h2 : l.p.size ≤ 2097152) (h3 : e.c.size ≤ maxLen) (h4 : e.r.size ≤ maxLen) (hE : Env w) :
    Calls Tryz.prog 36 #[l.val, e.val] w fun e' w' => e' = .returned (.tuple #[(appF l e).1.val, .int .i64 (appF l e).2]) ∧ ∃ g, w' = plus w g := by
  have HE := hid hE
  clear hE
  cases ho : l.ok
  · have HF : Hid (appF l e = (l, 1)) := hid (by simp [appF, ho])
    have HO := hid ho
    clear ho
    go_enter Tryz.func36, Tryz.ntmps36
    go_wp2_with fail
    refine (i_IsValidLog l _ HO.out _ h1 h2 (HE.out.grew (by (repeat (first | with_reducible exact grew_refl _ | with_reducible assumption | with_reducible refine grew_split ?_ | with_reducible refine grew_mk ?_ | with_reducible refine grew_plus ?_ | with_reducible refine grew_alloc ?_ | with_reducible refine grew_drew ?_ | (with_reducible refine grew_set ?_ (by first | exact Nat.le_refl _ | omega | (simp [go_sem]; done) | (simp [go_sem]; omega)))))))).mono ?_
    (rintro e w' ⟨rfl, gx, rfl⟩)
    go_wp2_with fail
    refine bodyPost_ret (v := .tuple #[l.val, .int .i64 1]) (by simp [results, Tryz.results36, go_sem]) rfl ?_
    rw [HF.out]
    exact ⟨rfl, by (repeat (first | with_reducible exact grew_refl _ | with_reducible assumption | with_reducible refine grew_split ?_ | with_reducible refine grew_mk ?_ | with_reducible refine grew_plus ?_ | with_reducible refine grew_alloc ?_ | with_reducible refine grew_drew ?_ | (with_reducible refine grew_set ?_ (by first | exact Nat.le_refl _ | omega | (simp [go_sem]; done) | (simp [go_sem]; omega)))))⟩
  have HO := hid ho
  obtain ⟨c0, c60⟩ := LogR.count ho
  clear ho
  cases he : e.ok
  · have HF : Hid (appF l e = (l, 1)) := hid (by simp [appF, he])
    have HQ := hid he
    clear he
    go_enter Tryz.func36, Tryz.ntmps36
    go_wp2_with fail
    refine (i_IsValidLog l _ HO.out _ h1 h2 (HE.out.grew (by (repeat (first | with_reducible exact grew_refl _ | with_reducible assumption | with_reducible refine grew_split ?_ | with_reducible refine grew_mk ?_ | with_reducible refine grew_plus ?_ | with_reducible refine grew_alloc ?_ | with_reducible refine grew_drew ?_ | (with_reducible refine grew_set ?_ (by first | exact Nat.le_refl _ | omega | (simp [go_sem]; done) | (simp [go_sem]; omega)))))))).mono ?_
    (rintro e w' ⟨rfl, gx, rfl⟩)
    go_wp2_with fail
    refine (i_IsValidRecord e.c e.r _ HQ.out _ h3 h4).mono ?_
    (rintro e w' ⟨rfl, gx, rfl⟩)
    go_wp2_with fail
    refine bodyPost_ret (v := .tuple #[l.val, .int .i64 1]) (by simp [results, Tryz.results36, go_sem]) rfl ?_
    rw [HF.out]
    exact ⟨rfl, by (repeat (first | with_reducible exact grew_refl _ | with_reducible assumption | with_reducible refine grew_split ?_ | with_reducible refine grew_mk ?_ | with_reducible refine grew_plus ?_ | with_reducible refine grew_alloc ?_ | with_reducible refine grew_drew ?_ | (with_reducible refine grew_set ?_ (by first | exact Nat.le_refl _ | omega | (simp [go_sem]; done) | (simp [go_sem]; omega)))))⟩
  have HQ := hid he
  by_cases hn : l.n = 60
  · have HF : Hid (appF l e = (l, 2)) := hid (by simp [appF, he, HO.out, hn])
    have hn' : (l.n == 60) = true := by simp [hn]
    clear he hn
    go_enter Tryz.func36, Tryz.ntmps36
    go_wp2_with fail
    refine (i_IsValidLog l _ HO.out _ h1 h2 (HE.out.grew (by (repeat (first | with_reducible exact grew_refl _ | with_reducible assumption | with_reducible refine grew_split ?_ | with_reducible refine grew_mk ?_ | with_reducible refine grew_plus ?_ | with_reducible refine grew_alloc ?_ | with_reducible refine grew_drew ?_ | (with_reducible refine grew_set ?_ (by first | exact Nat.le_refl _ | omega | (simp [go_sem]; done) | (simp [go_sem]; omega)))))))).mono ?_
    (rintro e w' ⟨rfl, gx, rfl⟩)
    go_wp2_with fail
    refine (i_IsValidRecord e.c e.r _ HQ.out _ h3 h4).mono ?_
    (rintro e w' ⟨rfl, gx, rfl⟩)
    go_wp2_with fail
    refine bodyPost_ret (v := .tuple #[l.val, .int .i64 2]) (by simp [results, Tryz.results36, go_sem]) rfl ?_
    rw [HF.out]
    exact ⟨rfl, by (repeat (first | with_reducible exact grew_refl _ | with_reducible assumption | with_reducible refine grew_split ?_ | with_reducible refine grew_mk ?_ | with_reducible refine grew_plus ?_ | with_reducible refine grew_alloc ?_ | with_reducible refine grew_drew ?_ | (with_reducible refine grew_set ?_ (by first | exact Nat.le_refl _ | omega | (simp [go_sem]; done) | (simp [go_sem]; omega)))))⟩
  have HF : Hid (appF l e = (⟨l.d, l.p ++ lineV l.n.toNat e, l.n + 1⟩, 0)) := hid (by simp [appF, he, HO.out, hn])
  have hn' : (l.n == 60) = false := by simp [hn]
  have HL := hid (fun (k : Nat) (hk : k < 60) W (h : Env W) => i_encodeRecord k e W hk he h)
  have HZ := hid (fun (k : Nat) (hk : k < 60) => lineV_size he hk)
  clear he
  obtain ⟨d, p, n⟩ := l
  obtain ⟨c, r⟩ := e
  simp only at h1 h2 h3 h4 c0 c60 hn
  obtain ⟨m, rfl⟩ := Int.eq_ofNat_of_zero_le c0
  have hm : m < 60 := by omega
  have HF2 : Hid (appF ⟨d, p, (m : Int)⟩ ⟨c, r⟩ = (⟨d, p ++ lineV m ⟨c, r⟩, (m : Int) + 1⟩, 0)) := HF
  have z1 := HZ.out m hm
  have hn' : ((m : Int) == 60) = false := by simp; omega
  have hsum : ¬ 9223372036854775807 < p.size + (lineV m ⟨c, r⟩).size := by omega
  have hcnt : IntKind.i64.wrap ((m : Int) + 1) = (m : Int) + 1 := IntWalk.i64_in _ (by omega)
  clear hn HF
  go_enter Tryz.func36, Tryz.ntmps36
  go_wp2_with fail
  refine (i_IsValidLog _ _ HO.out _ h1 h2 (HE.out.grew (by (repeat (first | with_reducible exact grew_refl _ | with_reducible assumption | with_reducible refine grew_split ?_ | with_reducible refine grew_mk ?_ | with_reducible refine grew_plus ?_ | with_reducible refine grew_alloc ?_ | with_reducible refine grew_drew ?_ | (with_reducible refine grew_set ?_ (by first | exact Nat.le_refl _ | omega | (simp [go_sem]; done) | (simp [go_sem]; omega)))))))).mono ?_
  (rintro e w' ⟨rfl, gx, rfl⟩)
  go_wp2_with fail
  refine (i_IsValidRecord c r _ HQ.out _ h3 h4).mono ?_
  (rintro e w' ⟨rfl, gx, rfl⟩)
  go_wp2_with fail
  have KEEP : Hid (∀ W : World, (∃ g, W = plus ((w.alloc (.cells #[.string d, .string p, .int .i64 (m : Int)] 28)).alloc (.cells #[.string c, .string r] 40)) g) → ((fun w' => w'.cell? ⟨w.heap.size, 0, none⟩ = some (.string d) ∧ w'.cell? ⟨w.heap.size, 1, none⟩ = some (.string p) ∧ w'.cell? ⟨w.heap.size, 2, none⟩ = some (.int .i64 (m : Int)) ∧ w'.cell? ⟨w.heap.size + 1, 0, none⟩ = some (.string c) ∧ w'.cell? ⟨w.heap.size + 1, 1, none⟩ = some (.string r))) W) := hid (by
    rintro W ⟨g, rfl⟩
    simp [go_sem])
  go_region_held3 (fun w' => w'.cell? ⟨w.heap.size, 0, none⟩ = some (.string d) ∧ w'.cell? ⟨w.heap.size, 1, none⟩ = some (.string p) ∧ w'.cell? ⟨w.heap.size, 2, none⟩ = some (.int .i64 (m : Int)) ∧ w'.cell? ⟨w.heap.size + 1, 0, none⟩ = some (.string c) ∧ w'.cell? ⟨w.heap.size + 1, 1, none⟩ = some (.string r)) (exact KEEP.out _ (by (repeat (first | with_reducible exact grew_refl _ | with_reducible assumption | with_reducible refine grew_split ?_ | with_reducible refine grew_mk ?_ | with_reducible refine grew_plus ?_ | with_reducible refine grew_alloc ?_ | with_reducible refine grew_drew ?_ | (with_reducible refine grew_set ?_ (by first | exact Nat.le_refl _ | omega | (simp [go_sem]; done) | (simp [go_sem]; omega))))))) ((go_at_call 73; refine (HL.out m hm _ (HE.out.grew (by (repeat (first | with_reducible exact grew_refl _ | with_reducible assumption | with_reducible refine grew_split ?_ | with_reducible refine grew_mk ?_ | with_reducible refine grew_plus ?_ | with_reducible refine grew_alloc ?_ | with_reducible refine grew_drew ?_ | (with_reducible refine grew_set ?_ (by first | exact Nat.le_refl _ | omega | (simp [go_sem]; done) | (simp [go_sem]; omega)))))))).mono ?_; (rintro e w' ⟨rfl, gx, rfl⟩)))
  go_wp2_with fail
  refine bodyPost_ret (v := .tuple #[LogR.val ⟨d, p ++ lineV m ⟨c, r⟩, (m : Int) + 1⟩, .int .i64 0]) (by simp [results, Tryz.results36, go_sem]) rfl ?_
  rw [HF2.out]
  exact ⟨rfl, by (repeat (first | with_reducible exact grew_refl _ | with_reducible assumption | with_reducible refine grew_split ?_ | with_reducible refine grew_mk ?_ | with_reducible refine grew_plus ?_ | with_reducible refine grew_alloc ?_ | with_reducible refine grew_drew ?_ | (with_reducible refine grew_set ?_ (by first | exact Nat.le_refl _ | omega | (simp [go_sem]; done) | (simp [go_sem]; omega)))))⟩
set_option maxHeartbeats 2000000 in
theorem s_AppendRecord (l : LogR) (e : RecR) (w : World) (h1 : l.d.size ≤ 2097152) (h2 : l.p.size ≤ 2097152) (h3 : e.c.size ≤ maxLen) (h4 : e.r.size ≤ maxLen) (hE : Env w) :
    Calls Tryz.prog 30 #[l.val, e.val] w fun e' w' => e' = .returned (.tuple #[(appF l e).1.val, .int .i64 (appF l e).2]) ∧ ∃ g, w' = plus w g := by
  have HE := hid hE
  clear hE
  cases ho : l.ok
  · have HF : Hid (appF l e = (l, 1)) := hid (by simp [appF, ho])
    have HO := hid ho
    clear ho
    go_enter Tryz.func30, Tryz.ntmps30
    go_wp2_with fail
    refine (s_l27Log l _ HO.out _ h1 h2).mono ?_
    (rintro e w' ⟨rfl, gx, rfl⟩)
    go_wp2_with fail
    refine bodyPost_ret (v := .tuple #[l.val, .int .i64 1]) (by simp [results, Tryz.results30, go_sem]) rfl ?_
    rw [HF.out]
    exact ⟨rfl, by (repeat (first | with_reducible exact grew_refl _ | with_reducible assumption | with_reducible refine grew_split ?_ | with_reducible refine grew_mk ?_ | with_reducible refine grew_plus ?_ | with_reducible refine grew_alloc ?_ | with_reducible refine grew_drew ?_ | (with_reducible refine grew_set ?_ (by first | exact Nat.le_refl _ | omega | (simp [go_sem]; done) | (simp [go_sem]; omega)))))⟩
  have HO := hid ho
  obtain ⟨c0, c60⟩ := LogR.count ho
  clear ho
  cases he : e.ok
  · have HF : Hid (appF l e = (l, 1)) := hid (by simp [appF, he])
    have HQ := hid he
    clear he
    go_enter Tryz.func30, Tryz.ntmps30
    go_wp2_with fail
    refine (s_l27Log l _ HO.out _ h1 h2).mono ?_
    (rintro e w' ⟨rfl, gx, rfl⟩)
    go_wp2_with fail
    refine (s_l27Good e.c e.r _ HQ.out _ h3 h4).mono ?_
    (rintro e w' ⟨rfl, gx, rfl⟩)
    go_wp2_with fail
    refine bodyPost_ret (v := .tuple #[l.val, .int .i64 1]) (by simp [results, Tryz.results30, go_sem]) rfl ?_
    rw [HF.out]
    exact ⟨rfl, by (repeat (first | with_reducible exact grew_refl _ | with_reducible assumption | with_reducible refine grew_split ?_ | with_reducible refine grew_mk ?_ | with_reducible refine grew_plus ?_ | with_reducible refine grew_alloc ?_ | with_reducible refine grew_drew ?_ | (with_reducible refine grew_set ?_ (by first | exact Nat.le_refl _ | omega | (simp [go_sem]; done) | (simp [go_sem]; omega)))))⟩
  have HQ := hid he
  by_cases hn : l.n = 60
  · have HF : Hid (appF l e = (l, 2)) := hid (by simp [appF, he, HO.out, hn])
    have hn' : (l.n == 60) = true := by simp [hn]
    clear he hn
    go_enter Tryz.func30, Tryz.ntmps30
    go_wp2_with fail
    refine (s_l27Log l _ HO.out _ h1 h2).mono ?_
    (rintro e w' ⟨rfl, gx, rfl⟩)
    go_wp2_with fail
    refine (s_l27Good e.c e.r _ HQ.out _ h3 h4).mono ?_
    (rintro e w' ⟨rfl, gx, rfl⟩)
    go_wp2_with fail
    refine bodyPost_ret (v := .tuple #[l.val, .int .i64 2]) (by simp [results, Tryz.results30, go_sem]) rfl ?_
    rw [HF.out]
    exact ⟨rfl, by (repeat (first | with_reducible exact grew_refl _ | with_reducible assumption | with_reducible refine grew_split ?_ | with_reducible refine grew_mk ?_ | with_reducible refine grew_plus ?_ | with_reducible refine grew_alloc ?_ | with_reducible refine grew_drew ?_ | (with_reducible refine grew_set ?_ (by first | exact Nat.le_refl _ | omega | (simp [go_sem]; done) | (simp [go_sem]; omega)))))⟩
  have HF : Hid (appF l e = (⟨l.d, l.p ++ lineV l.n.toNat e, l.n + 1⟩, 0)) := hid (by simp [appF, he, HO.out, hn])
  have hn' : (l.n == 60) = false := by simp [hn]
  have HP := hid (RecR.parts he)
  have HZ := hid (fun (k : Nat) (hk : k < 60) => lineV_size he hk)
  clear he
  obtain ⟨d, p, n⟩ := l
  obtain ⟨c, r⟩ := e
  simp only at h1 h2 h3 h4 c0 c60 hn
  obtain ⟨m, rfl⟩ := Int.eq_ofNat_of_zero_le c0
  have hm : m < 60 := by omega
  have HF2 : Hid (appF ⟨d, p, (m : Int)⟩ ⟨c, r⟩ = (⟨d, p ++ lineV m ⟨c, r⟩, (m : Int) + 1⟩, 0)) := HF
  have z1 := HZ.out m hm
  have hn' : ((m : Int) == 60) = false := by simp; omega
  have hsum : ¬ 9223372036854775807 < p.size + (lineV m ⟨c, r⟩).size := by omega
  have hcnt : IntKind.i64.wrap ((m : Int) + 1) = (m : Int) + 1 := IntWalk.i64_in _ (by omega)
  clear hn HF
  go_enter Tryz.func30, Tryz.ntmps30
  go_wp2_with fail
  refine (s_l27Log _ _ HO.out _ h1 h2).mono ?_
  (rintro e w' ⟨rfl, gx, rfl⟩)
  go_wp2_with fail
  refine (s_l27Good c r _ HQ.out _ h3 h4).mono ?_
  (rintro e w' ⟨rfl, gx, rfl⟩)
  go_wp2_with fail
  have o2 : c.size ≤ 160 := HP.out.2.1
  have o3 : r.size ≤ 200 := HP.out.2.2.2.2.2
  go_region_with (go_at_call 62; refine (s_l27Line m ⟨c, r⟩ _ (by omega) (by simp only; omega) (by simp only; omega)).mono ?_; (rintro e w' ⟨rfl, gx, rfl⟩))
  all_goals
    go_wp2_with fail
    refine bodyPost_ret (v := .tuple #[LogR.val ⟨d, p ++ lineV m ⟨c, r⟩, (m : Int) + 1⟩, .int .i64 0]) (by simp [results, Tryz.results30, go_sem]) rfl ?_
    rw [HF2.out]
    exact ⟨rfl, by (repeat (first | with_reducible exact grew_refl _ | with_reducible assumption | with_reducible refine grew_split ?_ | with_reducible refine grew_mk ?_ | with_reducible refine grew_plus ?_ | with_reducible refine grew_alloc ?_ | with_reducible refine grew_drew ?_ | (with_reducible refine grew_set ?_ (by first | exact Nat.le_refl _ | omega | (simp [go_sem]; done) | (simp [go_sem]; omega)))))⟩
end Go.Proofs.YtecghfcgahgfiaaGreatDoor
/- What a command does: plain definitions and bounds. No program in sight. -/
namespace Go.Proofs.YtecghfcgahgfiaaGreatDoor
open Go.RowKit

def wordIs (s : ByteArray) (l : List UInt8) : Bool := s.toList == l
theorem wordIs_yes {s : ByteArray} {l : List UInt8} (h : wordIs s l = true) : s.toList = l := by simpa [wordIs] using h
/-- The kind of step that a word tells. -/
def kindF (s : ByteArray) : Int :=
  if wordIs s [119, 97, 105, 116] then 1 else if wordIs s [108, 101, 97, 118, 101] then 2 else if wordIs s [99, 97, 115, 116] then 3 else if wordIs s [98, 101, 103, 105, 110] then 4 else if wordIs s [101, 110, 100] then 5 else if wordIs s [98, 114, 101, 97, 107] then 6 else if wordIs s [114, 101, 116, 117, 114, 110] then 7 else 0
theorem kindF_range (s : ByteArray) : 0 ≤ kindF s ∧ kindF s ≤ 7 := by
  unfold kindF
  repeat' split
  all_goals omega
/-- Numbers with spaces between them. -/
def listG : List Int → ByteArray
  | [] => bs [110, 111, 110, 101]
  | x :: r => r.foldl (fun s y => s ++ bs [32] ++ num y) (num x)
theorem listG_snoc {l : List Int} (h : l ≠ []) (y : Int) : listG (l ++ [y]) = listG l ++ bs [32] ++ num y := by
  cases l with
  | nil => exact absurd rfl h
  | cons x r => simp [listG, List.foldl_append]
theorem listG_size : ∀ {l : List Int}, (∀ y ∈ l, -1000000000000 ≤ y ∧ y ≤ 1000000000000) → (listG l).size ≤ 15 * l.length + 4 := by
  intro l
  have key : ∀ (r : List Int) (s : ByteArray), (∀ y ∈ r, -1000000000000 ≤ y ∧ y ≤ 1000000000000) → (r.foldl (fun s y => s ++ bs [32] ++ num y) s).size ≤ s.size + 15 * r.length := by
    intro r
    induction r with
    | nil => intro s _; simp
    | cons y q ih =>
      intro s h
      rw [List.foldl_cons]
      have h1 := ih (s ++ bs [32] ++ num y) (fun z hz => h z (by simp [hz]))
      have h2 := num_size y (h y (by simp)).1 (h y (by simp)).2
      have h3 : (bs [32]).size = 1 := rfl
      simp only [ByteArray.size_append, List.length_cons] at h1 ⊢
      omega
  intro h
  cases l with
  | nil => decide
  | cons x r =>
    have h1 := key r (num x) (fun z hz => h z (by simp [hz]))
    have h2 := num_size x (h x (by simp)).1 (h x (by simp)).2
    simp only [listG, List.length_cons]
    omega
/-- As the library joins them. -/
theorem listG_join : ∀ {l : List Int}, l ≠ [] → (⟨(Go.Lib.join ((l.map num).map (·.data.toList)) [32]).toArray⟩ : ByteArray) = listG l := by
  intro l hl
  cases l with
  | nil => exact absurd rfl hl
  | cons x r =>
    rw [List.map_cons, List.map_cons, Go.Lib.join_cons]
    have key : ∀ (r : List Int) (s : ByteArray), bl s ++ Go.Lib.joinTail [32] ((r.map num).map (·.data.toList)) = bl (r.foldl (fun s y => s ++ bs [32] ++ num y) s) := by
      intro r
      induction r with
      | nil => intro s; simp [Go.Lib.joinTail]
      | cons y q ih =>
        intro s
        rw [List.foldl_cons, ← ih]
        simp [Go.Lib.joinTail, bs]
    exact ba_ext (key r (num x))
theorem listG_len {l : List Int} (hl : l ≠ []) : (Go.Lib.join ((l.map num).map (·.data.toList)) [32]).length = (listG l).size := by
  rw [← listG_join hl, ← bl_len]
/-- A step and its reply; none if it is not possible. -/
def doStep (d : DayC) (k x : Int) : Option (DayC × ByteArray) := if (stepAll d k x).2 then some ((stepAll d k x).1, textC (stepAll d k x).1) else none
/-- The reply of a command that changes nothing. -/
def doAsk (d : DayC) (s : ByteArray) : Option ByteArray :=
  if wordIs s [100, 97, 121] then some (textC d) else if wordIs s [116, 111, 100, 111] then some (listG (todoF d)) else if wordIs s [109, 105, 110, 117, 116, 101, 115] then some (num (leftF d).1) else if wordIs s [103, 111, 111, 100] then some (if castB d then bs [121, 101, 115] else bs [110, 111]) else if wordIs s [109, 111, 115, 116] then some (num (mostF d).1) else none
def runC (d : DayC) (line : ByteArray) : Option (DayC × ByteArray) := match splitV line 32 with
  | [x] => if kindF x = 1 ∨ kindF x = 4 then none else if kindF x = 0 then (doAsk d x).map fun r => (d, r) else doStep d (kindF x) 0
  | [x, y] => if kindF x = 1 ∨ kindF x = 4 then (match parseF y with | some n => doStep d (kindF x) n | none => none) else none
  | _ => none
/-- What a command leaves of a day and a log, and its reply. -/
def exeF (d : DayC) (l : LogR) (line : ByteArray) : DayC × LogR × ByteArray :=
  if !(d.ok && l.ok) then (d, l, bs [110, 111]) else if !recOk line ⟨#[]⟩ then (d, l, bs [98, 97, 100]) else if l.n = 60 then (d, l, bs [102, 117, 108, 108]) else
    match runC d line with
    | some (d', r) => (d', (appF l ⟨line, if 200 < r.size then bs [108, 111, 110, 103] else r⟩).1, if 200 < r.size then bs [108, 111, 110, 103] else r)
    | none => (d, (appF l ⟨line, bs [63]⟩).1, bs [63])
theorem textC_size {d : DayC} (h : d.ok = true) : (textC d).size ≤ 200 := by
  obtain ⟨b1, b2, b3, b4, b5, b6, b7, b8, b9, b10, b11, b12, b13, b14⟩ := DayC.bounds h
  have z1 := num_size d.minute (by omega) (by omega)
  have z2 := num_size d.line (by omega) (by omega)
  have hd := doneTo_le d.lines d.lines.length
  have z3 := num_size (doneTo d.lines d.lines.length) (by omega) (by omega)
  have z4 := num_size d.lines.length (by omega) (by omega)
  have z5 := num_size d.fuel (by omega) (by omega)
  have zs : (stateT d).size ≤ 40 := by
    unfold stateT
    split
    · decide
    · split
      · decide
      · have : (bs [111, 110, 32, 108, 105, 110, 101, 32]).size = 8 := rfl
        simp only [ByteArray.size_append]; omega
  have e1 : (bs [32]).size = 1 := rfl
  have e2 : (bs [59, 32, 100, 111, 110, 101, 32]).size = 7 := rfl
  have e3 : (bs [47]).size = 1 := rfl
  have e4 : (bs [59, 32, 102, 117, 101, 108, 32]).size = 7 := rfl
  simp only [textC, ByteArray.size_append]
  omega
theorem doStep_size {d : DayC} {k x : Int} {p : DayC × ByteArray} (h : doStep d k x = some p) : p.1.ok = true ∧ p.2.size ≤ 200 := by
  unfold doStep at h
  split at h
  · rename_i hs
    injection h with h
    subst h
    have hd : (stepAll d k x).1.ok = true := by
      unfold stepAll at hs ⊢
      split
      · rename_i hk; rw [if_pos hk] at hs; exact stepF_ok hs
      · rename_i hk; rw [if_neg hk] at hs; cases hs
    exact ⟨hd, textC_size hd⟩
  · cases h
end Go.Proofs.YtecghfcgahgfiaaGreatDoor
/- Whole lists appended to a list of the call's own; clear. No program in sight. -/
namespace Go.Proofs.YtecghfcgahgfiaaGreatDoor
open Go.RowKit

theorem Blk.setCells {g : Nat} {t : TypeId} (us : List Value) : ∀ {w : World} {cs : Array Value} (o : Nat), Blk w g t cs → Blk (w.setCells g o us) g t (put cs o us) := by
  induction us with
  | nil => intro w cs o h; exact h
  | cons u r ih => intro w cs o h; exact ih (o + 1) (h.set_ o u)
theorem grown_setCells {w : World} {g : Nat} (us : List Value) : ∀ {w' : World} (o : Nat), w.grownBy w' (some g) → w.grownBy (w'.setCells g o us) (some g) := by
  induction us with
  | nil => intro w' o h; exact h
  | cons u r ih => intro w' o h; exact ih (o + 1) (grown_set h)
/-- 'clear(s)' of one element of several cells. -/
theorem run_clear_one {P : Program} (w : World) (t e ty : TypeId) (z : Value) (zs : List Value) (ht : P.underlying t = some (.slice e)) (hv : ∀ w, (zeroValue e).run P w = .ok z w) (hz : (Builtin.zeroCells z.cells 1).toList = zs) (h1 : ∀ u ∈ zs, u.oneCell' = true) (b o c : Nat)
    (hc : ∀ j, j < zs.length → (w.cell? ⟨b, o + j, none⟩).isSome = true) (hf : ∀ j, j < zs.length → w.frozen? ⟨b, o + j, none⟩ = false) :
    (Builtin.clear_ #[t] ty #[.slice (some ⟨b, o, none⟩) 1 c]).run P w = .ok (.tuple #[]) (w.setCells b o zs) := by
  have hst := run_storeCells_cells (P := P) b o zs 0 w (by simpa using hc) (by simpa using hf) h1
  simp only [Nat.add_zero] at hst
  simp [Builtin.clear_, run_underlying ht, hv, hz, hst]
theorem flat_lenA {α : Type} {cells : α → List Value} {s : Nat} (hs : ∀ x, (cells x).length = s) : ∀ l : List α, (l.flatMap cells).length = l.length * s
  | [] => by simp
  | x :: r => by rw [List.flatMap_cons, List.length_append, hs, flat_lenA hs r, List.length_cons, Nat.add_mul]; omega
theorem flat_atA {α : Type} {cells : α → List Value} {s : Nat} (hs : ∀ x, (cells x).length = s) (h0 : 0 < s) {l : List α} {j : Nat} {u : Value} (h : (l.flatMap cells)[j]? = some u) : ∃ hi : j / s < l.length, (cells l[j / s])[j % s]? = some u := by
  have hj := (List.getElem?_eq_some_iff.1 h).1
  rw [flat_lenA hs] at hj
  have hi : j / s < l.length := (Nat.div_lt_iff_lt_mul h0).2 hj
  refine ⟨hi, ?_⟩
  have hm := Nat.mod_lt j h0
  have hu : (cells l[j / s])[j % s]? = some ((cells l[j / s])[j % s]'(by rw [hs]; exact hm)) := List.getElem?_eq_getElem _
  have h2 := flat_get hs l (j / s) hi (j % s) _ hu
  rw [show j / s * s + j % s = j by rw [Nat.mul_comm]; exact Nat.div_add_mod j s, h] at h2
  rw [hu]; injection h2 with h2; rw [h2]
/-- A list that a slice reads as, as the cells of an append's source. -/
theorem sl_news {α : Type} {w : World} {cells : α → List Value} {s : Nat} (hs : ∀ x, (cells x).length = s) (h0 : 0 < s) {b off : Nat} {l : List α} (hc : ∀ i (hi : i < l.length) j u, (cells l[i])[j]? = some u → w.cell? ⟨b, off + i * s + j, none⟩ = some u) :
    ∀ j u, (l.flatMap cells)[j]? = some u → w.cell? ((⟨b, off, none⟩ : Addr).add j) = some u := by
  intro j u hu
  obtain ⟨hi, h⟩ := flat_atA hs h0 hu
  have h2 := hc _ hi _ _ h
  rw [show off + j / s * s + j % s = off + j by have := Nat.div_add_mod j s; rw [Nat.mul_comm] at this; omega] at h2
  have ha : (⟨b, off, none⟩ : Addr).add j = ⟨b, off + j, none⟩ := by unfold Addr.add; split <;> simp_all
  rw [ha]; exact h2
theorem flat_one {α : Type} {cells : α → List Value} (h : ∀ x, ∀ u ∈ cells x, u.oneCell' = true) (l : List α) : ∀ u ∈ l.flatMap cells, u.oneCell' = true := by
  intro u hu
  obtain ⟨x, _, hx⟩ := List.mem_flatMap.1 hu
  exact h x u hx
theorem opq_wp {P : Program} {c : Code} {Q : Exit → Act → World → Prop} {a : Act} {W : World} (F : World → Prop) (hF : F W) (h : ∀ wr, F wr → Code.wp P c Q a wr) : Code.wp P c Q a W := h W hF
theorem opq_calls {P : Program} {f : FuncId} {args : Array Value} {W : World} {R : Ending → World → Prop} (F : World → Prop) (hF : F W) (h : ∀ wr, F wr → Calls P f args wr R) : Calls P f args W R := h W hF
theorem opq_exit {K : Act → World → Prop} {Q : Exit → Act → World → Prop} {a : Act} {W : World} (F : World → Prop) (hF : F W) (h : ∀ wr, F wr → Exit.then K Q .normal a wr) : Exit.then K Q .normal a W := h W hF
theorem opq_list {P : Program} {ops : Array Oper} {rest : List Oper} {a : Act} {Q : Exit → Act → World → Prop} {W : World} (F : World → Prop) (hF : F W) (h : ∀ wr, F wr → wpList P ops Q rest a wr) : wpList P ops Q rest a W := h W hF
theorem grew_two' {a b c : World} (h1 : ∃ g, b = plus a g) (h2 : ∃ g, c = plus b g) : ∃ g, c = plus a g := by
  obtain ⟨_, rfl⟩ := h1; obtain ⟨_, rfl⟩ := h2; exact ⟨_, plus_plus _ _ _⟩
theorem blk_drew {w : World} {g : Nat} {t : TypeId} {cs : Array Value} (h : Blk w g t cs) : Blk w.drew g t cs := h
theorem Own.less' {α : Type} {B B' : Nat} {e : TypeId} {s : Nat} {cells : α → List Value} {w : World} {A : Option Addr} {c : Nat} {l : List α} (h : Own B e s cells w A c l) (hB : B' ≤ B) : Own B' e s cells w A c l := h.less hB
/-- Lists of elements of different types lie apart. -/
theorem blk_keptD {β : Type} {B' : Nat} {e' : TypeId} {s' : Nat} {cells' : β → List Value} {w w' : World} {g : Nat} {t : TypeId} {cs : Array Value} {A' : Option Addr} {c' n d : Nat} {l' : List β} (h : Blk w g t cs) (h2 : Own B' e' s' cells' w A' c' l') (hne : t ≠ e') (hg : w.grownBy w' (Value.slice A' n d).ownBlock) : Blk w' g t cs := by
  refine h.grown hg fun hk => ?_
  obtain ⟨a2, e3, e4⟩ := own_some hk.symm
  rcases h2.2 with ⟨r1, _⟩ | ⟨g', cap', cur', r1, _, r2, _⟩
  · injection r1 with r1; rw [r1] at e3; cases e3
  · injection r1 with r1
    rw [r1] at e3
    injection e3 with e3
    subst e3
    simp only at e4
    subst e4
    unfold Blk at h
    rw [r2] at h
    injection h with h
    injection h with _ h
    exact hne h.symm
theorem Own.keptD {α β : Type} {B B' : Nat} {e e' : TypeId} {s s' : Nat} {cells : α → List Value} {cells' : β → List Value} {w w' : World} {A A' : Option Addr} {c c' n d : Nat} {l : List α} {l' : List β} (h : Own B e s cells w A c l) (h2 : Own B' e' s' cells' w A' c' l') (hne : e ≠ e') (hg : w.grownBy w' (Value.slice A' n d).ownBlock) : Own B e s cells w' A c l := by
  rcases h.2 with h1 | ⟨g, cap, cur, q1, q2, q3, q4⟩
  · exact ⟨h.1, .inl h1⟩
  · exact ⟨h.1, .inr ⟨g, cap, cur, q1, q2, blk_keptD q3 h2 hne hg, q4⟩⟩
theorem Own.open1 {α : Type} {B : Nat} {e : TypeId} {s : Nat} {cells : α → List Value} {w : World} {g c : Nat} {l : List α} (h : Own B e s cells w (some ⟨g, 0, none⟩) c l) (hs : ∀ x, (cells x).length = s) :
    ∃ cur, B ≤ g ∧ Blk w g e cur ∧ l.length ≤ c ∧ c ≤ maxLen ∧ cur.size = c * s ∧ Filled cur s cells l l.length := by
  rcases h.2 with ⟨h1, h2⟩ | ⟨g', cap, cur, hv, hb, hh, hn, hm, hc, ht⟩
  · injection h1 with h1; cases h1
  · injection hv with hA _ hC
    injection hA with hA
    injection hA with hA
    subst hA hC
    refine ⟨cur, hb, hh, hn, hm, hc, fun i hi _ j u hu => ?_⟩
    have h1 := flat_get hs l i hi j u hu
    rw [← ht, List.getElem?_take] at h1
    split at h1
    · simpa using h1
    · cases h1
/-- A list of the call's own, its block laid open. -/
theorem Own.open_ {α : Type} {B : Nat} {e : TypeId} {s : Nat} {cells : α → List Value} {w : World} {A : Option Addr} {c : Nat} {l : List α} (h : Own B e s cells w A c l) (hs : ∀ x, (cells x).length = s) (hl : 0 < l.length) :
    ∃ g cur, A = some ⟨g, 0, none⟩ ∧ B ≤ g ∧ Blk w g e cur ∧ l.length ≤ c ∧ c ≤ maxLen ∧ cur.size = c * s ∧ Filled cur s cells l l.length := by
  rcases h.2 with ⟨h1, h2⟩ | ⟨g, cap, cur, hv, hb, hh, hn, hm, hc, ht⟩
  · omega
  · injection hv with hA _ hC
    subst hA hC
    refine ⟨g, cur, rfl, hb, hh, hn, hm, hc, fun i hi _ j u hu => ?_⟩
    have h1 := flat_get hs l i hi j u hu
    rw [← ht, List.getElem?_take] at h1
    split at h1
    · simpa using h1
    · cases h1
theorem Sl.read {α : Type} {w : World} {s b off : Nat} {cells : α → List Value} {l : List α} (h : Sl w s cells (some ⟨b, off, none⟩) l) : ∀ i (hi : i < l.length) j u, (cells l[i])[j]? = some u → w.cell? ⟨b, off + i * s + j, none⟩ = some u := by
  intro i hi j u hu
  rcases h with rfl | ⟨b', off', hA, _, hc⟩
  · simp at hi
  · injection hA with hA
    injection hA with h1 h2
    subst h1 h2
    exact hc i hi j u hu
/-- An element of a filled array set anew. -/
theorem Filled.set_ {α : Type} {cs : Array Value} {s : Nat} {cells : α → List Value} {l : List α} {i : Nat} {r : α} (h : Filled cs s cells l l.length) (hs : ∀ x, (cells x).length = s) (hz : l.length * s ≤ cs.size) :
    Filled (put cs (i * s) (cells r)) s cells (l.set i r) (l.set i r).length := by
  intro k hk _ j u hu
  have hk' : k < l.length := by simpa using hk
  have hj : j < s := by
    have := (List.getElem?_eq_some_iff.1 hu).1
    rwa [hs] at this
  by_cases hki : k = i
  · subst hki
    rw [List.getElem_set_self] at hu
    refine put_at _ _ _ _ _ hu ?_
    have : (k + 1) * s ≤ l.length * s := Nat.mul_le_mul_right _ hk'
    rw [Nat.add_mul] at this; omega
  · rw [List.getElem_set_ne (by omega)] at hu
    have h1 := h k hk' hk' j u hu
    rcases Nat.lt_or_ge k i with hlt | hge
    · rw [put_below]
      · exact h1
      · have : (k + 1) * s ≤ i * s := Nat.mul_le_mul_right _ hlt
        rw [Nat.add_mul] at this; omega
    · rw [put_beyond]
      · exact h1
      · rw [hs]
        have : (i + 1) * s ≤ k * s := Nat.mul_le_mul_right _ (by omega)
        rw [Nat.add_mul] at this; omega
section
variable {P : Program} {α : Type}
/-- append(out, ys...) of a whole list. -/
theorem appL {cells : α → List Value} {B : Nat} {w : World} (ty t : TypeId)
    (e : TypeId) (s bytes : Nat) (z : Value) (ht : P.underlying t = some (.slice e)) (hinf : (P.info? e).map (fun i => (i.zero, i.size, i.bytes)) = some (some z, s, bytes)) (hzs : z.cells.size = s) (hsz : 0 < s) (hby : bytes ≤ 4096) (hcl : ∀ x, (cells x).length = s) (h1 : ∀ x, ∀ u ∈ cells x, u.oneCell' = true)
    (A : Option Addr) (c : Nat) (l : List α) (hown : Own B e s cells w A c l) (hB : B ≤ w.heap.size) (ys : List α) (hl : l.length + ys.length ≤ 1073741824)
    (b off : Nat) (c1 : Nat) (hnews : ∀ i (hi : i < ys.length) j u, (cells ys[i])[j]? = some u → w.cell? ⟨b, off + i * s + j, none⟩ = some u) :
    ∃ A' c' w', (Builtin.append_ #[t, t] ty #[.slice A l.length c, .slice (some ⟨b, off, none⟩) ys.length c1]).run P w = .ok (.slice A' (l ++ ys).length c') w' ∧ Own B e s cells w' A' c' (l ++ ys) ∧ w.grownBy w' (Value.slice A l.length c).ownBlock ∧
      (∀ a', A' = some a' → (∃ a0, A = some a0 ∧ a0.block = a'.block) ∨ a'.block = w.heap.size) := by
  obtain ⟨i0, hi0, hz0, hz1, hz2⟩ := info_parts hinf
  have hbytes : (l.length + ys.length) * bytes ≤ 140737488355328 := by
    have := Nat.mul_le_mul (show l.length + ys.length ≤ 1073741825 by omega) hby
    omega
  obtain ⟨v', w', hr, hown', hg, _, hat⟩ := run_append_own_at (P := P) w B t ty e i0 z s bytes ht hi0 hz0 hz1 hz2 hzs hsz _ _ _ hown ⟨b, off, none⟩ ys.length c1 (ys.flatMap cells) (flat_lenA hcl ys) (sl_news hcl hsz hnews) (flat_one h1 ys) (by unfold maxLen; omega) hbytes hB
  have hlen : l.length + ys.length = (l ++ ys).length := by simp
  have hfl : l.flatMap cells ++ ys.flatMap cells = (l ++ ys).flatMap cells := by simp
  rw [hlen, hfl] at hown'
  have main : ∀ A' c', v' = .slice A' (l ++ ys).length c' → ∃ A' c' w', (Builtin.append_ #[t, t] ty #[.slice A l.length c, .slice (some ⟨b, off, none⟩) ys.length c1]).run P w = .ok (.slice A' (l ++ ys).length c') w' ∧ Own B e s cells w' A' c' (l ++ ys) ∧ w.grownBy w' (Value.slice A l.length c).ownBlock ∧
      (∀ a', A' = some a' → (∃ a0, A = some a0 ∧ a0.block = a'.block) ∨ a'.block = w.heap.size) := by
    intro A' c' hv
    subst hv
    refine ⟨_, _, w', hr, hown', hg, fun a' ha' => ?_⟩
    subst ha'
    rcases hat with h | h
    · obtain ⟨a0, h2, h3⟩ := own_some (h.symm.trans (show (Value.slice (some a') (l ++ ys).length c').ownBlock = some a'.block from rfl))
      exact .inl ⟨a0, h2, h3⟩
    · simp [Value.ownBlock] at h
      exact .inr h
  rcases hown'.2 with ⟨h1, hn⟩ | ⟨g, cap, cur, h1, _⟩
  · refine main none 0 ?_
    rw [h1, hn]
  · exact main _ _ h1
theorem wpList_appL {cells : α → List Value} {B : Nat} {w : World} {ops : Array Oper} {rest : List Oper} {o : Oper} {a : Act} {Q : Exit → Act → World → Prop} (hgd : o.guard = none) (sl x : Operand) (t : TypeId)
    (ho : o.op = .call { callee := .builtin .append, args := #[sl, x], argTypes := #[t, t] })
    (e : TypeId) (s bytes : Nat) (z : Value) (ht : P.underlying t = some (.slice e)) (hinf : (P.info? e).map (fun i => (i.zero, i.size, i.bytes)) = some (some z, s, bytes)) (hzs : z.cells.size = s) (hsz : 0 < s) (hby : bytes ≤ 4096) (hcl : ∀ x, (cells x).length = s) (h1 : ∀ x, ∀ u ∈ cells x, u.oneCell' = true)
    (A : Option Addr) (c : Nat) (l : List α) (n : Nat) (hn : n = l.length) (hs : a.eval sl = .slice A n c) (hown : Own B e s cells w A c l) (hB : B ≤ w.heap.size) (ys : List α) (hl : l.length + ys.length ≤ 1073741824)
    (b off : Nat) (m c1 : Nat) (hm : m = ys.length) (hx : a.eval x = .slice (some ⟨b, off, none⟩) m c1) (hnews : ∀ i (hi : i < ys.length) j u, (cells ys[i])[j]? = some u → w.cell? ⟨b, off + i * s + j, none⟩ = some u)
    (h : ∀ A' c' w', Own B e s cells w' A' c' (l ++ ys) → w.grownBy w' (Value.slice A n c).ownBlock → (∀ a', A' = some a' → (∃ a0, A = some a0 ∧ a0.block = a'.block) ∨ a'.block = w.heap.size) → wpList P ops Q rest (a.put o.dst (.slice A' (n + m) c')) w') :
    wpList P ops Q (o :: rest) a w := by
  subst hn hm
  refine wpList_plain hgd fun K hK => ?_
  obtain ⟨A', c', w', hr, h2, h3, h4⟩ := appL (P := P) o.type t e s bytes z ht hinf hzs hsz hby hcl h1 A c l hown hB ys hl b off c1 hnews
  rw [show (l ++ ys).length = l.length + ys.length by simp] at hr
  unfold Oper.wp execOp
  simp only [ho, resolve, invoke, builtin, Sem.run_bind, Sem.run_pure, Result.andThen_ok, List.map_toArray, List.map_cons, List.map_nil, hs, hx, hr]
  exact hK _ _ (h A' c' w' h2 h3 h4)
theorem step_appL {cells : α → List Value} {B : Nat} {w : World} {ops : Array Oper} {o : Oper} {a : Act} {K : Act → World → Prop} {Q : Exit → Act → World → Prop} {E : Prop} (hgd : o.guard = none) (sl x : Operand) (t : TypeId)
    (ho : o.op = .call { callee := .builtin .append, args := #[sl, x], argTypes := #[t, t] })
    (e : TypeId) (s bytes : Nat) (z : Value) (ht : P.underlying t = some (.slice e)) (hinf : (P.info? e).map (fun i => (i.zero, i.size, i.bytes)) = some (some z, s, bytes)) (hzs : z.cells.size = s) (hsz : 0 < s) (hby : bytes ≤ 4096) (hcl : ∀ x, (cells x).length = s) (h1 : ∀ x, ∀ u ∈ cells x, u.oneCell' = true)
    (A : Option Addr) (c : Nat) (l : List α) (n : Nat) (hn : n = l.length) (hs : a.eval sl = .slice A n c) (hown : Own B e s cells w A c l) (hB : B ≤ w.heap.size) (ys : List α) (hl : l.length + ys.length ≤ 1073741824)
    (b off : Nat) (m c1 : Nat) (hm : m = ys.length) (hx : a.eval x = .slice (some ⟨b, off, none⟩) m c1) (hnews : ∀ i (hi : i < ys.length) j u, (cells ys[i])[j]? = some u → w.cell? ⟨b, off + i * s + j, none⟩ = some u)
    (h : ∀ A' c' w', Own B e s cells w' A' c' (l ++ ys) → w.grownBy w' (Value.slice A n c).ownBlock → (∀ a', A' = some a' → (∃ a0, A = some a0 ∧ a0.block = a'.block) ∨ a'.block = w.heap.size) → K (a.put o.dst (.slice A' (n + m) c')) w') :
    if Region.wanted o (yielded ops a.tmps) = true then Oper.wp P o a w K Q else E := by
  subst hn hm
  have hw : Region.wanted o (yielded ops a.tmps) = true := by simp [Region.wanted, hgd]
  rw [if_pos hw]
  obtain ⟨A', c', w', hr, h2, h3, h4⟩ := appL (P := P) o.type t e s bytes z ht hinf hzs hsz hby hcl h1 A c l hown hB ys hl b off c1 hnews
  rw [show (l ++ ys).length = l.length + ys.length by simp] at hr
  unfold Oper.wp execOp
  simp only [ho, resolve, invoke, builtin, Sem.run_bind, Sem.run_pure, Result.andThen_ok, List.map_toArray, List.map_cons, List.map_nil, hs, hx, hr]
  exact h A' c' w' h2 h3 h4
end
end Go.Proofs.YtecghfcgahgfiaaGreatDoor
