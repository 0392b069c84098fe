/- Consoles: their values; which are valid, in both packages; the laws' conversions. Conditions: sizes that an int holds. -/
import Derived.Test.YtonbgaipmlgndaaDoorD3
import Derived.Test.YtonbgaipmlgndaaDoorH1
namespace Go.Proofs.YtonbgaipmlgndaaDoor
open Go.RowKit

structure ConV where
  day : DayV
  log : LogR
abbrev ConV.val (v : ConV) : Value := .agg #[.int .i64 v.day.core.minute, .int .i64 v.day.core.state, .slice v.day.A v.day.core.lines.length v.day.c, .int .i64 v.day.core.line, .int .i64 v.day.core.since, .int .i64 v.day.core.cast, .int .i64 v.day.core.fuel, .string v.log.d, .string v.log.p, .int .i64 v.log.n]
def conOk (d : DayC) (l : LogR) : Bool := d.ok && l.ok
set_option maxHeartbeats 1000000 in
theorem i_IsValidConsole (v : DayV) (l : LogR) (o : Bool) (ho : conOk v.core l = o) (w : World) (hv : v.At w) (h1 : l.d.size ≤ 2097152) (h2 : l.p.size ≤ 2097152) (hE : Env w) :
    Calls Tryd.prog 8 #[ConV.val ⟨v, l⟩] w fun e w' => e = .returned (.bool o) ∧ ∃ g, w' = plus w g := by
  have HV := hid hv
  have HE := hid hE
  clear hv hE
  cases h3 : v.core.ok
  · obtain rfl : o = false := by rw [← ho, conOk, h3]; rfl
    have H3 := hid h3
    clear ho h3
    go_enter Tryd.func8, Tryd.ntmps8
    go_wp2_with fail
    refine (i_IsSurveyDay v _ H3.out _ (HV.out.grew (by (repeat (first | with_reducible exact grew_refl _ | with_reducible assumption | with_reducible refine grew_split ?_ | with_reducible refine grew_mk ?_ | with_reducible refine grew_plus ?_ | with_reducible refine grew_alloc ?_ | with_reducible refine grew_drew ?_ | (with_reducible refine grew_set ?_ (by first | exact Nat.le_refl _ | omega | (simp [go_sem]; done) | (simp [go_sem]; omega)))))))).mono ?_
    (rintro e w' ⟨rfl, gx, rfl⟩)
    go_wp2_with fail
    go_ret
    exact ⟨rfl, by (repeat (first | with_reducible exact grew_refl _ | with_reducible assumption | with_reducible refine grew_split ?_ | with_reducible refine grew_mk ?_ | with_reducible refine grew_plus ?_ | with_reducible refine grew_alloc ?_ | with_reducible refine grew_drew ?_ | (with_reducible refine grew_set ?_ (by first | exact Nat.le_refl _ | omega | (simp [go_sem]; done) | (simp [go_sem]; omega)))))⟩
  · have HO : Hid (l.ok = o) := hid (by rw [← ho, conOk, h3]; rfl)
    have H3 := hid h3
    clear ho h3
    go_enter Tryd.func8, Tryd.ntmps8
    go_wp2_with fail
    refine (i_IsSurveyDay v _ H3.out _ (HV.out.grew (by (repeat (first | with_reducible exact grew_refl _ | with_reducible assumption | with_reducible refine grew_split ?_ | with_reducible refine grew_mk ?_ | with_reducible refine grew_plus ?_ | with_reducible refine grew_alloc ?_ | with_reducible refine grew_drew ?_ | (with_reducible refine grew_set ?_ (by first | exact Nat.le_refl _ | omega | (simp [go_sem]; done) | (simp [go_sem]; omega)))))))).mono ?_
    (rintro e w' ⟨rfl, gx, rfl⟩)
    go_wp2_with fail
    refine (i_IsValidLog l _ HO.out _ h1 h2 (HE.out.grew (by (repeat (first | with_reducible exact grew_refl _ | with_reducible assumption | with_reducible refine grew_split ?_ | with_reducible refine grew_mk ?_ | with_reducible refine grew_plus ?_ | with_reducible refine grew_alloc ?_ | with_reducible refine grew_drew ?_ | (with_reducible refine grew_set ?_ (by first | exact Nat.le_refl _ | omega | (simp [go_sem]; done) | (simp [go_sem]; omega)))))))).mono ?_
    (rintro e w' ⟨rfl, gx, rfl⟩)
    go_wp2_with fail
    go_ret
    exact ⟨rfl, by (repeat (first | with_reducible exact grew_refl _ | with_reducible assumption | with_reducible refine grew_split ?_ | with_reducible refine grew_mk ?_ | with_reducible refine grew_plus ?_ | with_reducible refine grew_alloc ?_ | with_reducible refine grew_drew ?_ | (with_reducible refine grew_set ?_ (by first | exact Nat.le_refl _ | omega | (simp [go_sem]; done) | (simp [go_sem]; omega)))))⟩
set_option maxHeartbeats 1000000 in
theorem s_l28Good (v : DayV) (l : LogR) (o : Bool) (ho : conOk v.core l = o) (w : World) (hv : v.At w) (h1 : l.d.size ≤ 2097152) (h2 : l.p.size ≤ 2097152) (hE : Env w) :
    Calls Tryd.prog 14 #[ConV.val ⟨v, l⟩] w fun e w' => e = .returned (.bool o) ∧ ∃ g, w' = plus w g := by
  have HV := hid hv
  have HE := hid hE
  clear hv hE
  cases h3 : v.core.ok
  · obtain rfl : o = false := by rw [← ho, conOk, h3]; rfl
    have H3 := hid h3
    clear ho h3
    go_enter Tryd.func14, Tryd.ntmps14
    go_wp2_with fail
    refine (s_l25Good v _ H3.out _ (HV.out.grew (by (repeat (first | with_reducible exact grew_refl _ | with_reducible assumption | with_reducible refine grew_split ?_ | with_reducible refine grew_mk ?_ | with_reducible refine grew_plus ?_ | with_reducible refine grew_alloc ?_ | with_reducible refine grew_drew ?_ | (with_reducible refine grew_set ?_ (by first | exact Nat.le_refl _ | omega | (simp [go_sem]; done) | (simp [go_sem]; omega)))))))).mono ?_
    (rintro e w' ⟨rfl, gx, rfl⟩)
    go_wp2_with fail
    go_ret
    exact ⟨rfl, by (repeat (first | with_reducible exact grew_refl _ | with_reducible assumption | with_reducible refine grew_split ?_ | with_reducible refine grew_mk ?_ | with_reducible refine grew_plus ?_ | with_reducible refine grew_alloc ?_ | with_reducible refine grew_drew ?_ | (with_reducible refine grew_set ?_ (by first | exact Nat.le_refl _ | omega | (simp [go_sem]; done) | (simp [go_sem]; omega)))))⟩
  · have HO : Hid (l.ok = o) := hid (by rw [← ho, conOk, h3]; rfl)
    have H3 := hid h3
    clear ho h3
    go_enter Tryd.func14, Tryd.ntmps14
    go_wp2_with fail
    refine (s_l25Good v _ H3.out _ (HV.out.grew (by (repeat (first | with_reducible exact grew_refl _ | with_reducible assumption | with_reducible refine grew_split ?_ | with_reducible refine grew_mk ?_ | with_reducible refine grew_plus ?_ | with_reducible refine grew_alloc ?_ | with_reducible refine grew_drew ?_ | (with_reducible refine grew_set ?_ (by first | exact Nat.le_refl _ | omega | (simp [go_sem]; done) | (simp [go_sem]; omega)))))))).mono ?_
    (rintro e w' ⟨rfl, gx, rfl⟩)
    go_wp2_with fail
    refine (s_l27Log l _ HO.out _ h1 h2).mono ?_
    (rintro e w' ⟨rfl, gx, rfl⟩)
    go_wp2_with fail
    go_ret
    exact ⟨rfl, by (repeat (first | with_reducible exact grew_refl _ | with_reducible assumption | with_reducible refine grew_split ?_ | with_reducible refine grew_mk ?_ | with_reducible refine grew_plus ?_ | with_reducible refine grew_alloc ?_ | with_reducible refine grew_drew ?_ | (with_reducible refine grew_set ?_ (by first | exact Nat.le_refl _ | omega | (simp [go_sem]; done) | (simp [go_sem]; omega)))))⟩
set_option maxHeartbeats 1000000 in
theorem s_IsValidConsole (v : DayV) (l : LogR) (o : Bool) (ho : conOk v.core l = o) (w : World) (hv : v.At w) (h1 : l.d.size ≤ 2097152) (h2 : l.p.size ≤ 2097152) (hE : Env w) :
    Calls Tryd.prog 6 #[ConV.val ⟨v, l⟩] w fun e w' => e = .returned (.bool o) ∧ ∃ g, w' = plus w g := by
  have HV := hid hv
  have HE := hid hE
  have HO := hid ho
  clear hv hE ho
  go_enter Tryd.func6, Tryd.ntmps6
  go_wp2_with fail
  refine (s_l28Good v l o HO.out _ (HV.out.grew (by (repeat (first | with_reducible exact grew_refl _ | with_reducible assumption | with_reducible refine grew_split ?_ | with_reducible refine grew_mk ?_ | with_reducible refine grew_plus ?_ | with_reducible refine grew_alloc ?_ | with_reducible refine grew_drew ?_ | (with_reducible refine grew_set ?_ (by first | exact Nat.le_refl _ | omega | (simp [go_sem]; done) | (simp [go_sem]; omega))))))) h1 h2 (HE.out.grew (by (repeat (first | with_reducible exact grew_refl _ | with_reducible assumption | with_reducible refine grew_split ?_ | with_reducible refine grew_mk ?_ | with_reducible refine grew_plus ?_ | with_reducible refine grew_alloc ?_ | with_reducible refine grew_drew ?_ | (with_reducible refine grew_set ?_ (by first | exact Nat.le_refl _ | omega | (simp [go_sem]; done) | (simp [go_sem]; omega)))))))).mono ?_
  (rintro e w' ⟨rfl, gx, rfl⟩)
  go_wp2_with fail
  go_ret
  exact ⟨rfl, by (repeat (first | with_reducible exact grew_refl _ | with_reducible assumption | with_reducible refine grew_split ?_ | with_reducible refine grew_mk ?_ | with_reducible refine grew_plus ?_ | with_reducible refine grew_alloc ?_ | with_reducible refine grew_drew ?_ | (with_reducible refine grew_set ?_ (by first | exact Nat.le_refl _ | omega | (simp [go_sem]; done) | (simp [go_sem]; omega)))))⟩
set_option maxHeartbeats 1000000 in
theorem l_szConsole (v : DayV) (l : LogR) (n : Int) (w : World) (hv : v.At w) (h1 : l.d.size ≤ maxLen) (h2 : l.p.size ≤ maxLen) (h3 : 0 ≤ n) (h4 : n ≤ 1048576) :
    Calls Tryd.prog 5 #[ConV.val ⟨v, l⟩, .int .i64 n] w fun e' w' => (∃ z : Int, e' = .returned (.int .i64 z) ∧ -1 ≤ z ∧ z ≤ 1048576 ∧ (0 ≤ z → v.core.lines.length ≤ 1048576 ∧ l.d.size ≤ 1048576 ∧ l.p.size ≤ 1048576)) ∧ ∃ g, w' = plus w g := by
  have HV := hid hv
  clear hv
  go_enter Tryd.func5, Tryd.ntmps5
  go_wp2_with fail
  refine (l_szSurveyDay v n _ (HV.out.grew (by (repeat (first | with_reducible exact grew_refl _ | with_reducible assumption | with_reducible refine grew_split ?_ | with_reducible refine grew_mk ?_ | with_reducible refine grew_plus ?_ | with_reducible refine grew_alloc ?_ | with_reducible refine grew_drew ?_ | (with_reducible refine grew_set ?_ (by first | exact Nat.le_refl _ | omega | (simp [go_sem]; done) | (simp [go_sem]; omega))))))) h3 h4).mono ?_
  rintro e w' ⟨⟨k, rfl, k0, k1, k2⟩, g1, rfl⟩
  by_cases hneg : k < 0
  · go_wp2_with fail
    go_ret
    exact ⟨⟨-1, rfl, by omega, by omega, fun h => by omega⟩, by (repeat (first | with_reducible exact grew_refl _ | with_reducible assumption | with_reducible refine grew_split ?_ | with_reducible refine grew_mk ?_ | with_reducible refine grew_plus ?_ | with_reducible refine grew_alloc ?_ | with_reducible refine grew_drew ?_ | (with_reducible refine grew_set ?_ (by first | exact Nat.le_refl _ | omega | (simp [go_sem]; done) | (simp [go_sem]; omega)))))⟩
  have HK := hid (k2 (by omega))
  clear k2
  go_wp2_with fail
  refine (l_szLog l k _ h1 h2 (by omega) (by omega)).mono ?_
  rintro e w' ⟨⟨z, rfl, z0, z1, z2⟩, g2, rfl⟩
  have HZ := hid z2
  clear z2
  by_cases hneg2 : z < 0
  · go_wp2_with fail
    go_ret
    exact ⟨⟨-1, rfl, by omega, by omega, fun h => by omega⟩, by (repeat (first | with_reducible exact grew_refl _ | with_reducible assumption | with_reducible refine grew_split ?_ | with_reducible refine grew_mk ?_ | with_reducible refine grew_plus ?_ | with_reducible refine grew_alloc ?_ | with_reducible refine grew_drew ?_ | (with_reducible refine grew_set ?_ (by first | exact Nat.le_refl _ | omega | (simp [go_sem]; done) | (simp [go_sem]; omega)))))⟩
  · go_wp2_with fail
    go_ret
    exact ⟨⟨z, rfl, by omega, by omega, fun h => ⟨HK.out, HZ.out h⟩⟩, by (repeat (first | with_reducible exact grew_refl _ | with_reducible assumption | with_reducible refine grew_split ?_ | with_reducible refine grew_mk ?_ | with_reducible refine grew_plus ?_ | with_reducible refine grew_alloc ?_ | with_reducible refine grew_drew ?_ | (with_reducible refine grew_set ?_ (by first | exact Nat.le_refl _ | omega | (simp [go_sem]; done) | (simp [go_sem]; omega)))))⟩
theorem DayOwn.base {W W' : World} {x : Ext} {B : Nat} {A : Option Addr} {c : Nat} {l : List LineR} (h : DayOwn (Go.Proofs.YtonbgaipmlgndaaDoor.plus W x) B A c l) (hB : W.heap.size ≤ B) (hs : W'.heap.size = W.heap.size) : DayOwn (Go.Proofs.YtonbgaipmlgndaaDoor.plus W' x) B A c l := by
  obtain ⟨g, cs, h1, h2, h3, h4, h5, h6⟩ := h
  exact ⟨g, cs, h1, h2, h3, h4.base (by omega) hs, h5, h6⟩
theorem DayOwn.add {w : World} {B : Nat} {A : Option Addr} {c : Nat} {l : List LineR} {a : Ext} (h : DayOwn (Go.Proofs.YtonbgaipmlgndaaDoor.plus w a) B A c l) (x : Ext) : DayOwn (Go.Proofs.YtonbgaipmlgndaaDoor.plus w (a.add x)) B A c l := by
  rw [← plus_plus]; exact h.grew ⟨x, rfl⟩
theorem DayOwn.less {w : World} {B B' : Nat} {A : Option Addr} {c : Nat} {l : List LineR} (h : DayOwn w B A c l) (hB : B' ≤ B) : DayOwn w B' A c l := by
  obtain ⟨g, cs, h1, h2, h3, h4⟩ := h
  exact ⟨g, cs, h1, h2, by omega, h4⟩
set_option maxHeartbeats 2000000 in
theorem l_toConsole (v : DayV) (l : LogR) (w : World) (hv : v.At w) (hl : v.core.lines.length ≤ 1048576) :
    Calls Tryd.prog 7 #[ConV.val ⟨v, l⟩] w fun e' w' => (∃ A' c', e' = .returned (ConV.val ⟨⟨v.core, A', c'⟩, l⟩) ∧ DayV.At w' ⟨v.core, A', c'⟩ ∧ DayOwn w' w.heap.size A' c' v.core.lines) ∧ ∃ g, w' = plus w g := by
  have HV := hid hv
  clear hv
  go_enter Tryd.func7, Tryd.ntmps7
  go_wp2_with fail
  refine (l_toSurveyDay v _ (HV.out.grew (by (repeat (first | with_reducible exact grew_refl _ | with_reducible assumption | with_reducible refine grew_split ?_ | with_reducible refine grew_mk ?_ | with_reducible refine grew_plus ?_ | with_reducible refine grew_alloc ?_ | with_reducible refine grew_drew ?_ | (with_reducible refine grew_set ?_ (by first | exact Nat.le_refl _ | omega | (simp [go_sem]; done) | (simp [go_sem]; omega))))))) hl).mono ?_
  rintro e w' ⟨⟨A1, c1, rfl, hu1, ho1⟩, g1, rfl⟩
  have HO1 := hid ho1
  clear hu1 ho1
  go_wp2_with fail
  refine (l_toLog l _).mono ?_
  (rintro e w' ⟨rfl, gx, rfl⟩)
  go_wp2_with fail
  refine bodyPost_ret (v := ConV.val ⟨⟨v.core, A1, c1⟩, l⟩) (by simp [results, Tryd.results7, go_sem]) rfl ?_
  have h := HO1.out.add gx
  exact ⟨⟨A1, c1, rfl, ⟨(h.base (by simp) (by simp)).sl, by unfold maxLen; simp only; omega⟩, (h.base (by simp) (by simp)).less (by simp; omega)⟩, by (repeat (first | with_reducible exact grew_refl _ | with_reducible assumption | with_reducible refine grew_split ?_ | with_reducible refine grew_mk ?_ | with_reducible refine grew_plus ?_ | with_reducible refine grew_alloc ?_ | with_reducible refine grew_drew ?_ | (with_reducible refine grew_set ?_ (by first | exact Nat.le_refl _ | omega | (simp [go_sem]; done) | (simp [go_sem]; omega)))))⟩
set_option maxHeartbeats 1000000 in
theorem l_eqCon (v : DayC) (l : LogR) (A B : Option Addr) (c d : Nat) (w : World) (hv : DayV.At w ⟨v, A, c⟩) (hu : DayV.At w ⟨v, B, d⟩) :
    Calls Tryd.prog 9 #[ConV.val ⟨⟨v, A, c⟩, l⟩, ConV.val ⟨⟨v, B, d⟩, l⟩] w fun e w' => e = .returned (.bool true) ∧ ∃ g, w' = plus w g := by
  have HV := hid hv
  have HU := hid hu
  clear hv hu
  go_enter Tryd.func9, Tryd.ntmps9
  go_wp2_with fail
  refine (l_eqSurveyDay v A B c d _ (HV.out.grew (by (repeat (first | with_reducible exact grew_refl _ | with_reducible assumption | with_reducible refine grew_split ?_ | with_reducible refine grew_mk ?_ | with_reducible refine grew_plus ?_ | with_reducible refine grew_alloc ?_ | with_reducible refine grew_drew ?_ | (with_reducible refine grew_set ?_ (by first | exact Nat.le_refl _ | omega | (simp [go_sem]; done) | (simp [go_sem]; omega))))))) (HU.out.grew (by (repeat (first | with_reducible exact grew_refl _ | with_reducible assumption | with_reducible refine grew_split ?_ | with_reducible refine grew_mk ?_ | with_reducible refine grew_plus ?_ | with_reducible refine grew_alloc ?_ | with_reducible refine grew_drew ?_ | (with_reducible refine grew_set ?_ (by first | exact Nat.le_refl _ | omega | (simp [go_sem]; done) | (simp [go_sem]; omega)))))))).mono ?_
  (rintro e w' ⟨rfl, gx, rfl⟩)
  go_wp2_with fail
  refine (l_eqLog l _).mono ?_
  (rintro e w' ⟨rfl, gx, rfl⟩)
  go_wp2_with fail
  go_ret
  exact ⟨rfl, by (repeat (first | with_reducible exact grew_refl _ | with_reducible assumption | with_reducible refine grew_split ?_ | with_reducible refine grew_mk ?_ | with_reducible refine grew_plus ?_ | with_reducible refine grew_alloc ?_ | with_reducible refine grew_drew ?_ | (with_reducible refine grew_set ?_ (by first | exact Nat.le_refl _ | omega | (simp [go_sem]; done) | (simp [go_sem]; omega)))))⟩
end Go.Proofs.YtonbgaipmlgndaaDoor
