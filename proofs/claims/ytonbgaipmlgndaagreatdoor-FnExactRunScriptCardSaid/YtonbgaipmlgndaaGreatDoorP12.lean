import Derived.Test.YtonbgaipmlgndaaGreatDoorP11
import Derived.Test.YtonbgaipmlgndaaGreatDoorP10
import Derived.Test.YtonbgaipmlgndaaGreatDoorP3
/- Consoles: their values; which are valid, in both packages; the laws' conversions. Conditions: sizes that an int holds. -/
namespace Go.Proofs.YtonbgaipmlgndaaGreatDoor
open Go.RowKit

structure ConV where
  day : DayV
  log : LogR
abbrev ConV.val (v : ConV) : Value := .agg #[.int .i64 v.day.core.minute, .int .i64 v.day.core.state, .slice v.day.A v.day.core.lines.length v.day.c, .int .i64 v.day.core.line, .int .i64 v.day.core.since, .int .i64 v.day.core.cast, .int .i64 v.day.core.fuel, .string v.log.d, .string v.log.p, .int .i64 v.log.n]
def conOk (d : DayC) (l : LogR) : Bool := d.ok && l.ok
set_option maxHeartbeats 1000000 in
theorem i_IsValidConsole (v : DayV) (l : LogR) (o : Bool) (ho : conOk v.core l = o) (w : World) (hv : v.At w) (h1 : l.d.size ≤ 2097152) (h2 : l.p.size ≤ 2097152) (hE : Env w) :
    Calls Tryz.prog 30 #[ConV.val ⟨v, l⟩] w fun e w' => e = .returned (.bool o) ∧ ∃ g, w' = plus w g := by
  have HV := hid hv
  have HE := hid hE
  clear hv hE
  cases h3 : v.core.ok
  · obtain rfl : o = false := by rw [← ho, conOk, h3]; rfl
    have H3 := hid h3
    clear ho h3
    go_enter Tryz.func30, Tryz.ntmps30
    go_wp2_with fail
    refine (i_IsSurveyDay v _ H3.out _ (HV.out.grew (by (repeat (first | with_reducible exact grew_refl _ | with_reducible assumption | with_reducible refine grew_split ?_ | with_reducible refine grew_mk ?_ | with_reducible refine grew_plus ?_ | with_reducible refine grew_alloc ?_ | with_reducible refine grew_drew ?_ | (with_reducible refine grew_set ?_ (by first | exact Nat.le_refl _ | omega | (simp [go_sem]; done) | (simp [go_sem]; omega)))))))).mono ?_
    (rintro e w' ⟨rfl, gx, rfl⟩)
    go_wp2_with fail
    go_ret
    exact ⟨rfl, by (repeat (first | with_reducible exact grew_refl _ | with_reducible assumption | with_reducible refine grew_split ?_ | with_reducible refine grew_mk ?_ | with_reducible refine grew_plus ?_ | with_reducible refine grew_alloc ?_ | with_reducible refine grew_drew ?_ | (with_reducible refine grew_set ?_ (by first | exact Nat.le_refl _ | omega | (simp [go_sem]; done) | (simp [go_sem]; omega)))))⟩
  · have HO : Hid (l.ok = o) := hid (by rw [← ho, conOk, h3]; rfl)
    have H3 := hid h3
    clear ho h3
    go_enter Tryz.func30, Tryz.ntmps30
    go_wp2_with fail
    refine (i_IsSurveyDay v _ H3.out _ (HV.out.grew (by (repeat (first | with_reducible exact grew_refl _ | with_reducible assumption | with_reducible refine grew_split ?_ | with_reducible refine grew_mk ?_ | with_reducible refine grew_plus ?_ | with_reducible refine grew_alloc ?_ | with_reducible refine grew_drew ?_ | (with_reducible refine grew_set ?_ (by first | exact Nat.le_refl _ | omega | (simp [go_sem]; done) | (simp [go_sem]; omega)))))))).mono ?_
    (rintro e w' ⟨rfl, gx, rfl⟩)
    go_wp2_with fail
    refine (i_IsValidLog l _ HO.out _ h1 h2 (HE.out.grew (by (repeat (first | with_reducible exact grew_refl _ | with_reducible assumption | with_reducible refine grew_split ?_ | with_reducible refine grew_mk ?_ | with_reducible refine grew_plus ?_ | with_reducible refine grew_alloc ?_ | with_reducible refine grew_drew ?_ | (with_reducible refine grew_set ?_ (by first | exact Nat.le_refl _ | omega | (simp [go_sem]; done) | (simp [go_sem]; omega)))))))).mono ?_
    (rintro e w' ⟨rfl, gx, rfl⟩)
    go_wp2_with fail
    go_ret
    exact ⟨rfl, by (repeat (first | with_reducible exact grew_refl _ | with_reducible assumption | with_reducible refine grew_split ?_ | with_reducible refine grew_mk ?_ | with_reducible refine grew_plus ?_ | with_reducible refine grew_alloc ?_ | with_reducible refine grew_drew ?_ | (with_reducible refine grew_set ?_ (by first | exact Nat.le_refl _ | omega | (simp [go_sem]; done) | (simp [go_sem]; omega)))))⟩
set_option maxHeartbeats 1000000 in
theorem s_l28Good (v : DayV) (l : LogR) (o : Bool) (ho : conOk v.core l = o) (w : World) (hv : v.At w) (h1 : l.d.size ≤ 2097152) (h2 : l.p.size ≤ 2097152) (hE : Env w) :
    Calls Tryz.prog 46 #[ConV.val ⟨v, l⟩] w fun e w' => e = .returned (.bool o) ∧ ∃ g, w' = plus w g := by
  have HV := hid hv
  have HE := hid hE
  clear hv hE
  cases h3 : v.core.ok
  · obtain rfl : o = false := by rw [← ho, conOk, h3]; rfl
    have H3 := hid h3
    clear ho h3
    go_enter Tryz.func46, Tryz.ntmps46
    go_wp2_with fail
    refine (s_l25Good v _ H3.out _ (HV.out.grew (by (repeat (first | with_reducible exact grew_refl _ | with_reducible assumption | with_reducible refine grew_split ?_ | with_reducible refine grew_mk ?_ | with_reducible refine grew_plus ?_ | with_reducible refine grew_alloc ?_ | with_reducible refine grew_drew ?_ | (with_reducible refine grew_set ?_ (by first | exact Nat.le_refl _ | omega | (simp [go_sem]; done) | (simp [go_sem]; omega)))))))).mono ?_
    (rintro e w' ⟨rfl, gx, rfl⟩)
    go_wp2_with fail
    go_ret
    exact ⟨rfl, by (repeat (first | with_reducible exact grew_refl _ | with_reducible assumption | with_reducible refine grew_split ?_ | with_reducible refine grew_mk ?_ | with_reducible refine grew_plus ?_ | with_reducible refine grew_alloc ?_ | with_reducible refine grew_drew ?_ | (with_reducible refine grew_set ?_ (by first | exact Nat.le_refl _ | omega | (simp [go_sem]; done) | (simp [go_sem]; omega)))))⟩
  · have HO : Hid (l.ok = o) := hid (by rw [← ho, conOk, h3]; rfl)
    have H3 := hid h3
    clear ho h3
    go_enter Tryz.func46, Tryz.ntmps46
    go_wp2_with fail
    refine (s_l25Good v _ H3.out _ (HV.out.grew (by (repeat (first | with_reducible exact grew_refl _ | with_reducible assumption | with_reducible refine grew_split ?_ | with_reducible refine grew_mk ?_ | with_reducible refine grew_plus ?_ | with_reducible refine grew_alloc ?_ | with_reducible refine grew_drew ?_ | (with_reducible refine grew_set ?_ (by first | exact Nat.le_refl _ | omega | (simp [go_sem]; done) | (simp [go_sem]; omega)))))))).mono ?_
    (rintro e w' ⟨rfl, gx, rfl⟩)
    go_wp2_with fail
    refine (s_l27Log l _ HO.out _ h1 h2).mono ?_
    (rintro e w' ⟨rfl, gx, rfl⟩)
    go_wp2_with fail
    go_ret
    exact ⟨rfl, by (repeat (first | with_reducible exact grew_refl _ | with_reducible assumption | with_reducible refine grew_split ?_ | with_reducible refine grew_mk ?_ | with_reducible refine grew_plus ?_ | with_reducible refine grew_alloc ?_ | with_reducible refine grew_drew ?_ | (with_reducible refine grew_set ?_ (by first | exact Nat.le_refl _ | omega | (simp [go_sem]; done) | (simp [go_sem]; omega)))))⟩
set_option maxHeartbeats 1000000 in
theorem s_IsValidConsole (v : DayV) (l : LogR) (o : Bool) (ho : conOk v.core l = o) (w : World) (hv : v.At w) (h1 : l.d.size ≤ 2097152) (h2 : l.p.size ≤ 2097152) (hE : Env w) :
    Calls Tryz.prog 31 #[ConV.val ⟨v, l⟩] w fun e w' => e = .returned (.bool o) ∧ ∃ g, w' = plus w g := by
  have HV := hid hv
  have HE := hid hE
  have HO := hid ho
  clear hv hE ho
  go_enter Tryz.func31, Tryz.ntmps31
  go_wp2_with fail
  refine (s_l28Good v l o HO.out _ (HV.out.grew (by (repeat (first | with_reducible exact grew_refl _ | with_reducible assumption | with_reducible refine grew_split ?_ | with_reducible refine grew_mk ?_ | with_reducible refine grew_plus ?_ | with_reducible refine grew_alloc ?_ | with_reducible refine grew_drew ?_ | (with_reducible refine grew_set ?_ (by first | exact Nat.le_refl _ | omega | (simp [go_sem]; done) | (simp [go_sem]; omega))))))) h1 h2 (HE.out.grew (by (repeat (first | with_reducible exact grew_refl _ | with_reducible assumption | with_reducible refine grew_split ?_ | with_reducible refine grew_mk ?_ | with_reducible refine grew_plus ?_ | with_reducible refine grew_alloc ?_ | with_reducible refine grew_drew ?_ | (with_reducible refine grew_set ?_ (by first | exact Nat.le_refl _ | omega | (simp [go_sem]; done) | (simp [go_sem]; omega)))))))).mono ?_
  (rintro e w' ⟨rfl, gx, rfl⟩)
  go_wp2_with fail
  go_ret
  exact ⟨rfl, by (repeat (first | with_reducible exact grew_refl _ | with_reducible assumption | with_reducible refine grew_split ?_ | with_reducible refine grew_mk ?_ | with_reducible refine grew_plus ?_ | with_reducible refine grew_alloc ?_ | with_reducible refine grew_drew ?_ | (with_reducible refine grew_set ?_ (by first | exact Nat.le_refl _ | omega | (simp [go_sem]; done) | (simp [go_sem]; omega)))))⟩
set_option maxHeartbeats 1000000 in
theorem l_szConsole (v : DayV) (l : LogR) (n : Int) (w : World) (hv : v.At w) (h1 : l.d.size ≤ maxLen) (h2 : l.p.size ≤ maxLen) (h3 : 0 ≤ n) (h4 : n ≤ 1048576) :
    Calls Tryz.prog 15 #[ConV.val ⟨v, l⟩, .int .i64 n] w fun e' w' => (∃ z : Int, e' = .returned (.int .i64 z) ∧ -1 ≤ z ∧ z ≤ 1048576 ∧ (0 ≤ z → v.core.lines.length ≤ 1048576 ∧ l.d.size ≤ 1048576 ∧ l.p.size ≤ 1048576)) ∧ ∃ g, w' = plus w g := by
  have HV := hid hv
  clear hv
  go_enter Tryz.func15, Tryz.ntmps15
  go_wp2_with fail
  refine (l_szSurveyDay v n _ (HV.out.grew (by (repeat (first | with_reducible exact grew_refl _ | with_reducible assumption | with_reducible refine grew_split ?_ | with_reducible refine grew_mk ?_ | with_reducible refine grew_plus ?_ | with_reducible refine grew_alloc ?_ | with_reducible refine grew_drew ?_ | (with_reducible refine grew_set ?_ (by first | exact Nat.le_refl _ | omega | (simp [go_sem]; done) | (simp [go_sem]; omega))))))) h3 h4).mono ?_
  rintro e w' ⟨⟨k, rfl, k0, k1, k2⟩, g1, rfl⟩
  by_cases hneg : k < 0
  · go_wp2_with fail
    go_ret
    exact ⟨⟨-1, rfl, by omega, by omega, fun h => by omega⟩, by (repeat (first | with_reducible exact grew_refl _ | with_reducible assumption | with_reducible refine grew_split ?_ | with_reducible refine grew_mk ?_ | with_reducible refine grew_plus ?_ | with_reducible refine grew_alloc ?_ | with_reducible refine grew_drew ?_ | (with_reducible refine grew_set ?_ (by first | exact Nat.le_refl _ | omega | (simp [go_sem]; done) | (simp [go_sem]; omega)))))⟩
  have HK := hid (k2 (by omega))
  clear k2
  go_wp2_with fail
  refine (l_szLog l k _ h1 h2 (by omega) (by omega)).mono ?_
  rintro e w' ⟨⟨z, rfl, z0, z1, z2⟩, g2, rfl⟩
  have HZ := hid z2
  clear z2
  by_cases hneg2 : z < 0
  · go_wp2_with fail
    go_ret
    exact ⟨⟨-1, rfl, by omega, by omega, fun h => by omega⟩, by (repeat (first | with_reducible exact grew_refl _ | with_reducible assumption | with_reducible refine grew_split ?_ | with_reducible refine grew_mk ?_ | with_reducible refine grew_plus ?_ | with_reducible refine grew_alloc ?_ | with_reducible refine grew_drew ?_ | (with_reducible refine grew_set ?_ (by first | exact Nat.le_refl _ | omega | (simp [go_sem]; done) | (simp [go_sem]; omega)))))⟩
  · go_wp2_with fail
    go_ret
    exact ⟨⟨z, rfl, by omega, by omega, fun h => ⟨HK.out, HZ.out h⟩⟩, by (repeat (first | with_reducible exact grew_refl _ | with_reducible assumption | with_reducible refine grew_split ?_ | with_reducible refine grew_mk ?_ | with_reducible refine grew_plus ?_ | with_reducible refine grew_alloc ?_ | with_reducible refine grew_drew ?_ | (with_reducible refine grew_set ?_ (by first | exact Nat.le_refl _ | omega | (simp [go_sem]; done) | (simp [go_sem]; omega)))))⟩
theorem DayOwn.base {W W' : World} {x : Ext} {B : Nat} {A : Option Addr} {c : Nat} {l : List LineR} (h : DayOwn (Go.Proofs.YtonbgaipmlgndaaGreatDoor.plus W x) B A c l) (hB : W.heap.size ≤ B) (hs : W'.heap.size = W.heap.size) : DayOwn (Go.Proofs.YtonbgaipmlgndaaGreatDoor.plus W' x) B A c l := by
  obtain ⟨g, cs, h1, h2, h3, h4, h5, h6⟩ := h
  exact ⟨g, cs, h1, h2, h3, h4.base (by omega) hs, h5, h6⟩
theorem DayOwn.add {w : World} {B : Nat} {A : Option Addr} {c : Nat} {l : List LineR} {a : Ext} (h : DayOwn (Go.Proofs.YtonbgaipmlgndaaGreatDoor.plus w a) B A c l) (x : Ext) : DayOwn (Go.Proofs.YtonbgaipmlgndaaGreatDoor.plus w (a.add x)) B A c l := by
  rw [← plus_plus]; exact h.grew ⟨x, rfl⟩
theorem DayOwn.less {w : World} {B B' : Nat} {A : Option Addr} {c : Nat} {l : List LineR} (h : DayOwn w B A c l) (hB : B' ≤ B) : DayOwn w B' A c l := by
  obtain ⟨g, cs, h1, h2, h3, h4⟩ := h
  exact ⟨g, cs, h1, h2, by omega, h4⟩
set_option maxHeartbeats 2000000 in
theorem l_toConsole (v : DayV) (l : LogR) (w : World) (hv : v.At w) (hl : v.core.lines.length ≤ 1048576) :
    Calls Tryz.prog 17 #[ConV.val ⟨v, l⟩] w fun e' w' => (∃ A' c', e' = .returned (ConV.val ⟨⟨v.core, A', c'⟩, l⟩) ∧ DayV.At w' ⟨v.core, A', c'⟩ ∧ DayOwn w' w.heap.size A' c' v.core.lines) ∧ ∃ g, w' = plus w g := by
  have HV := hid hv
  clear hv
  go_enter Tryz.func17, Tryz.ntmps17
  go_wp2_with fail
  refine (l_toSurveyDay v _ (HV.out.grew (by (repeat (first | with_reducible exact grew_refl _ | with_reducible assumption | with_reducible refine grew_split ?_ | with_reducible refine grew_mk ?_ | with_reducible refine grew_plus ?_ | with_reducible refine grew_alloc ?_ | with_reducible refine grew_drew ?_ | (with_reducible refine grew_set ?_ (by first | exact Nat.le_refl _ | omega | (simp [go_sem]; done) | (simp [go_sem]; omega))))))) hl).mono ?_
  rintro e w' ⟨⟨A1, c1, rfl, hu1, ho1⟩, g1, rfl⟩
  have HO1 := hid ho1
  clear hu1 ho1
  go_wp2_with fail
  refine (l_toLog l _).mono ?_
  (rintro e w' ⟨rfl, gx, rfl⟩)
  go_wp2_with fail
  refine bodyPost_ret (v := ConV.val ⟨⟨v.core, A1, c1⟩, l⟩) (by simp [results, Tryz.results17, go_sem]) rfl ?_
  have h := HO1.out.add gx
  exact ⟨⟨A1, c1, rfl, ⟨(h.base (by simp) (by simp)).sl, by unfold maxLen; simp only; omega⟩, (h.base (by simp) (by simp)).less (by simp; omega)⟩, by (repeat (first | with_reducible exact grew_refl _ | with_reducible assumption | with_reducible refine grew_split ?_ | with_reducible refine grew_mk ?_ | with_reducible refine grew_plus ?_ | with_reducible refine grew_alloc ?_ | with_reducible refine grew_drew ?_ | (with_reducible refine grew_set ?_ (by first | exact Nat.le_refl _ | omega | (simp [go_sem]; done) | (simp [go_sem]; omega)))))⟩
set_option maxHeartbeats 1000000 in
theorem l_eqCon (v : DayC) (l : LogR) (A B : Option Addr) (c d : Nat) (w : World) (hv : DayV.At w ⟨v, A, c⟩) (hu : DayV.At w ⟨v, B, d⟩) :
    Calls Tryz.prog 19 #[ConV.val ⟨⟨v, A, c⟩, l⟩, ConV.val ⟨⟨v, B, d⟩, l⟩] w fun e w' => e = .returned (.bool true) ∧ ∃ g, w' = plus w g := by
  have HV := hid hv
  have HU := hid hu
  clear hv hu
  go_enter Tryz.func19, Tryz.ntmps19
  go_wp2_with fail
  refine (l_eqSurveyDay v A B c d _ (HV.out.grew (by (repeat (first | with_reducible exact grew_refl _ | with_reducible assumption | with_reducible refine grew_split ?_ | with_reducible refine grew_mk ?_ | with_reducible refine grew_plus ?_ | with_reducible refine grew_alloc ?_ | with_reducible refine grew_drew ?_ | (with_reducible refine grew_set ?_ (by first | exact Nat.le_refl _ | omega | (simp [go_sem]; done) | (simp [go_sem]; omega))))))) (HU.out.grew (by (repeat (first | with_reducible exact grew_refl _ | with_reducible assumption | with_reducible refine grew_split ?_ | with_reducible refine grew_mk ?_ | with_reducible refine grew_plus ?_ | with_reducible refine grew_alloc ?_ | with_reducible refine grew_drew ?_ | (with_reducible refine grew_set ?_ (by first | exact Nat.le_refl _ | omega | (simp [go_sem]; done) | (simp [go_sem]; omega)))))))).mono ?_
  (rintro e w' ⟨rfl, gx, rfl⟩)
  go_wp2_with fail
  refine (l_eqLog l _).mono ?_
  (rintro e w' ⟨rfl, gx, rfl⟩)
  go_wp2_with fail
  go_ret
  exact ⟨rfl, by (repeat (first | with_reducible exact grew_refl _ | with_reducible assumption | with_reducible refine grew_split ?_ | with_reducible refine grew_mk ?_ | with_reducible refine grew_plus ?_ | with_reducible refine grew_alloc ?_ | with_reducible refine grew_drew ?_ | (with_reducible refine grew_set ?_ (by first | exact Nat.le_refl _ | omega | (simp [go_sem]; done) | (simp [go_sem]; omega)))))⟩
end Go.Proofs.YtonbgaipmlgndaaGreatDoor
/- Consoles that came in as arguments. -/
namespace Go.Proofs.YtonbgaipmlgndaaGreatDoor
open Go.ChangeShapes Go.WideShapes Go.ChangeAt Go.RowKit Go.Deep Go.Joins
open Go.ChangeMaps (open_string shut_string)

section
variable {H : Type} {enc : TypeId × Value → H} {w : World} {base : Nat} {spare : Nat → Bool} {held : Bool} {r : Reach} {b0 : Nat} {v : Value} {d : DataW H} {p : List MemPlace}
set_option maxRecDepth 100000 in
theorem open_console (hv : Value.okWide Tryz.prog w r b0 37 v) (h : DataW.Trod enc Tryz.prog w base spare held 37 v d p) : ∃ (u : DayV) (l : LogR), v = ConV.val ⟨u, l⟩ ∧ u.At w ∧ l.d.size ≤ maxLen ∧ l.p.size ≤ maxLen := by
  obtain ⟨cs, fuel, rfl, hf⟩ := read_value Tryz.underlying37 hv h
  obtain ⟨xs, m, _, _, hl, hx, hf⟩ := DataW.trod_struct Tryz.underlying37 hf
  have hC : Tryz.prog.cellsOf 37 = 10 := by kernel_rfl
  obtain ⟨l⟩ := cs
  match l, hl.trans hC with
  | [c0, c1, c2, c3, c4, c5, c6, c7, c8, c9], _ =>
    obtain ⟨y0, h0⟩ := field_at hf hx 0 _ rfl 7 (by kernel_rfl)
    obtain ⟨y1, h1⟩ := field_at hf hx 1 _ rfl 3 (by kernel_rfl)
    obtain ⟨u, hu, e⟩ := read_day _ _ _ h0
    obtain ⟨xs2, m2, _, _, hl2, hx2, hf2⟩ := DataW.trod_struct Tryz.underlying24 h1
    obtain ⟨z0, g0⟩ := field_at hf2 hx2 0 _ rfl 1 (by kernel_rfl)
    obtain ⟨z1, g1⟩ := field_at hf2 hx2 1 _ rfl 1 (by kernel_rfl)
    obtain ⟨z2, g2⟩ := field_at hf2 hx2 2 _ rfl 1 (by kernel_rfl)
    obtain ⟨a, e0, _, ha⟩ := DataW.trod_string Tryz.underlying9 g0
    obtain ⟨b, e1, _, hb⟩ := DataW.trod_string Tryz.underlying9 g1
    obtain ⟨n, e2, _, _⟩ := DataW.trod_int Tryz.underlying3 g2
    simp [DayV.row] at e
    simp at e0 e1 e2
    obtain ⟨rfl, rfl, rfl, rfl, rfl, rfl, rfl⟩ := e
    subst e0 e1 e2
    exact ⟨u, ⟨a, b, n⟩, rfl, hu, ha, hb⟩
end
end Go.Proofs.YtonbgaipmlgndaaGreatDoor
/- The text of a survey day, in both packages. -/
namespace Go.Proofs.YtonbgaipmlgndaaGreatDoor
open Go.RowKit

def bs (l : List UInt8) : ByteArray := ⟨l.toArray⟩
def doneTo (l : List LineR) (k : Nat) : Nat := ((l.take k).filter fun r => r.done).length
theorem doneTo_succ {l : List LineR} {k : Nat} (h : k < l.length) : doneTo l (k + 1) = doneTo l k + if l[k].done then 1 else 0 := by
  unfold doneTo; rw [List.take_succ_eq_append_getElem h, List.filter_append, List.length_append]
  cases h2 : l[k].done <;> simp [h2]
theorem doneTo_le (l : List LineR) (k : Nat) : doneTo l k ≤ k := by
  unfold doneTo
  have h1 := List.length_filter_le (fun r : LineR => r.done) (l.take k)
  have h2 := List.length_take_le k l
  omega
def stateT (v : DayC) : ByteArray := if v.state = 0 then bs [109, 111, 111, 114, 101, 100] else if v.state = 1 then bs [117, 110, 100, 101, 114, 32, 119, 97, 121] else bs [111, 110, 32, 108, 105, 110, 101, 32] ++ num v.line
def textC (v : DayC) : ByteArray := num v.minute ++ bs [32] ++ stateT v ++ bs [59, 32, 100, 111, 110, 101, 32] ++ num (doneTo v.lines v.lines.length) ++ bs [47] ++ num v.lines.length ++ bs [59, 32, 102, 117, 101, 108, 32] ++ num v.fuel
def textF (v : DayC) : ByteArray × Bool := if v.ok then (textC v, true) else (ByteArray.empty, false)
set_option maxHeartbeats 2000000 in
theorem i_SurveyDayText (v : DayV) (w : World) (hv : v.At w) (hT : Tab w) :
    Calls Tryz.prog 72 #[v.val] w fun e w' => e = .returned (.tuple #[.string (textF v.core).1, .bool (textF v.core).2]) ∧ ∃ g, w' = plus w g := by
  have HV := hid hv
  have HT := hid hT
  clear hv hT
  cases ho : v.core.ok
  · have HF : Hid (textF v.core = (ByteArray.empty, false)) := hid (by simp [textF, ho])
    go_enter Tryz.func72, Tryz.ntmps72
    go_wp2_with (go_at_call 68; refine (i_IsSurveyDay v _ ho _ (HV.out.alloc _)).mono ?_; (rintro e w' ⟨rfl, gx, rfl⟩))
    go_ret2
    exact ⟨ret_strb (by rw [HF.out]; rfl) (by rw [HF.out]), by (repeat (first | with_reducible exact grew_refl _ | with_reducible assumption | with_reducible refine grew_split ?_ | with_reducible refine grew_mk ?_ | with_reducible refine grew_plus ?_ | with_reducible refine grew_alloc ?_ | with_reducible refine grew_drew ?_ | (with_reducible refine grew_set ?_ (by first | exact Nat.le_refl _ | omega | (simp [go_sem]; done) | (simp [go_sem]; omega)))))⟩
  · have HF : Hid (textF v.core = (textC v.core, true)) := hid (by simp [textF, ho])
    obtain ⟨⟨minute, state, lines, line, since, cast, fuel⟩, A, c⟩ := v
    obtain ⟨b1, b2, b3, b4, b5, b6, b7, b8, b9, b10, b11, b12, b13, b14⟩ := DayC.bounds ho
    simp only at b1 b2 b3 b4 b5 b6 b7 b8 b9 b10 b11 b12 b13 b14 ⊢
    go_enter Tryz.func72, Tryz.ntmps72
    go_wp2_with fail
    refine (i_IsSurveyDay _ _ ho _ (HV.out.alloc _)).mono ?_
    (rintro e w' ⟨rfl, gx, rfl⟩)
    go_wp2_with fail
    go_loopw [14, 4] (fun i n wr => ∃ k : Nat, k ≤ lines.length ∧ i = .int .i64 k ∧ n = .int .i64 (doneTo lines k) ∧ (∃ g, wr = plus (w.alloc (.cells #[.int .i64 minute, .int .i64 state, .slice A lines.length c, .int .i64 line, .int .i64 since, .int .i64 cast, .int .i64 fuel] 41)) g)) (fun i _ _ => lines.length - (intOf i).toNat)
    case atStart => exact ⟨0, Nat.zero_le _, rfl, rfl, by (repeat (first | with_reducible exact grew_refl _ | with_reducible assumption | with_reducible refine grew_split ?_ | with_reducible refine grew_mk ?_ | with_reducible refine grew_plus ?_ | with_reducible refine grew_alloc ?_ | with_reducible refine grew_drew ?_ | (with_reducible refine grew_set ?_ (by first | exact Nat.le_refl _ | omega | (simp [go_sem]; done) | (simp [go_sem]; omega)))))⟩
    case round =>
      obtain ⟨k, hk, rfl, rfl, g, rfl⟩ := hrel
      by_cases hlt : k < lines.length
      · obtain ⟨b, off, rfl, hb, hc⟩ := HV.out.ln.at_ hlt
        obtain ⟨hc0, hc1⟩ := lcells hc hlt
        simp only at hb hc0 hc1
        have HS := hid (doneTo_succ hlt)
        have hd := doneTo_le lines k
        clear hc
        go_wp2
        all_goals
          go_roundw
          case rel => exact ⟨k + 1, by omega, by go_num, by rw [HS.out]; first | (rw [if_pos (by assumption)]; go_num) | (rw [if_neg (by assumption)]; go_num) | (simp [*]), by (repeat (first | with_reducible exact grew_refl _ | with_reducible assumption | with_reducible refine grew_split ?_ | with_reducible refine grew_mk ?_ | with_reducible refine grew_plus ?_ | with_reducible refine grew_alloc ?_ | with_reducible refine grew_drew ?_ | (with_reducible refine grew_set ?_ (by first | exact Nat.le_refl _ | omega | (simp [go_sem]; done) | (simp [go_sem]; omega)))))⟩
          case measure => simp [intOf]; omega
      · obtain rfl : k = lines.length := by omega
        have hd := doneTo_le lines lines.length
        have z1 := num_size minute (by omega) (by omega)
        have z2 := num_size line (by omega) (by omega)
        have z3 := num_size (doneTo lines lines.length) (by omega) (by omega)
        have z4 := num_size lines.length (by omega) (by omega)
        have z5 := num_size fuel (by omega) (by omega)
        have i0 : ∀ (W : World) (x y z : Value), (Instr.index 140 (.agg #[x, y, z]) (.int .i64 0)).run Tryz.prog W = .ok x W := fun _ _ _ _ => by kernel_rfl
        have i1 : ∀ (W : World) (x y z : Value), (Instr.index 140 (.agg #[x, y, z]) (.int .i64 1)).run Tryz.prog W = .ok y W := fun _ _ _ _ => by kernel_rfl
        have i2 : ∀ (W : World) (x y z : Value), (Instr.index 140 (.agg #[x, y, z]) (.int .i64 2)).run Tryz.prog W = .ok z W := fun _ _ _ _ => by kernel_rfl
        obtain hst | hst | hst : state = 0 ∨ state = 1 ∨ state = 2 := by omega
        all_goals
          subst hst
          go_wp2_with fail
          (refine wp_region_calm (by kernel_rfl) (by kernel_rfl) ?_; (repeat' (first | go_big_quiet_step (((go_at_call 71; first | exact calm_of (i_Itoa _ _ (by omega) (by omega) (HT.out.grew (by (repeat (first | with_reducible exact grew_refl _ | with_reducible assumption | with_reducible refine grew_split ?_ | with_reducible refine grew_mk ?_ | with_reducible refine grew_plus ?_ | with_reducible refine grew_alloc ?_ | with_reducible refine grew_drew ?_ | (with_reducible refine grew_set ?_ (by first | exact Nat.le_refl _ | omega | (simp [go_sem]; done) | (simp [go_sem]; omega)))))))) | exact calm_add (i_Itoa _ _ (by omega) (by omega) (HT.out.grew (by (repeat (first | with_reducible exact grew_refl _ | with_reducible assumption | with_reducible refine grew_split ?_ | with_reducible refine grew_mk ?_ | with_reducible refine grew_plus ?_ | with_reducible refine grew_alloc ?_ | with_reducible refine grew_drew ?_ | (with_reducible refine grew_set ?_ (by first | exact Nat.le_refl _ | omega | (simp [go_sem]; done) | (simp [go_sem]; omega))))))))))) | (refine wpQuiet_step (fun K hK => ?_); go_simp; go_ite <;> go_simp <;> (first | (refine hK _ ?_; clear hK K) | (apply Exists.intro; refine ⟨fun _ => ?_, hK _ ?_⟩; (((go_at_call 71; first | exact calm_of (i_Itoa _ _ (by omega) (by omega) (HT.out.grew (by (repeat (first | with_reducible exact grew_refl _ | with_reducible assumption | with_reducible refine grew_split ?_ | with_reducible refine grew_mk ?_ | with_reducible refine grew_plus ?_ | with_reducible refine grew_alloc ?_ | with_reducible refine grew_drew ?_ | (with_reducible refine grew_set ?_ (by first | exact Nat.le_refl _ | omega | (simp [go_sem]; done) | (simp [go_sem]; omega)))))))) | exact calm_add (i_Itoa _ _ (by omega) (by omega) (HT.out.grew (by (repeat (first | with_reducible exact grew_refl _ | with_reducible assumption | with_reducible refine grew_split ?_ | with_reducible refine grew_mk ?_ | with_reducible refine grew_plus ?_ | with_reducible refine grew_alloc ?_ | with_reducible refine grew_drew ?_ | (with_reducible refine grew_set ?_ (by first | exact Nat.le_refl _ | omega | (simp [go_sem]; done) | (simp [go_sem]; omega))))))))))); clear hK K))))); all_goals (refine wpQuiet_nil ?_; intro _ hw'; obtain ⟨gq, hw''⟩ := hw'; subst hw''))
          go_wp2_with fail
          (refine wp_region_calm (by kernel_rfl) (by kernel_rfl) ?_; (repeat' (first | go_big_quiet_step (((go_at_call 71; first | exact calm_of (i_Itoa _ _ (by omega) (by omega) (HT.out.grew (by (repeat (first | with_reducible exact grew_refl _ | with_reducible assumption | with_reducible refine grew_split ?_ | with_reducible refine grew_mk ?_ | with_reducible refine grew_plus ?_ | with_reducible refine grew_alloc ?_ | with_reducible refine grew_drew ?_ | (with_reducible refine grew_set ?_ (by first | exact Nat.le_refl _ | omega | (simp [go_sem]; done) | (simp [go_sem]; omega)))))))) | exact calm_add (i_Itoa _ _ (by omega) (by omega) (HT.out.grew (by (repeat (first | with_reducible exact grew_refl _ | with_reducible assumption | with_reducible refine grew_split ?_ | with_reducible refine grew_mk ?_ | with_reducible refine grew_plus ?_ | with_reducible refine grew_alloc ?_ | with_reducible refine grew_drew ?_ | (with_reducible refine grew_set ?_ (by first | exact Nat.le_refl _ | omega | (simp [go_sem]; done) | (simp [go_sem]; omega))))))))))) | (refine wpQuiet_step (fun K hK => ?_); go_simp; go_ite <;> go_simp <;> (first | (refine hK _ ?_; clear hK K) | (apply Exists.intro; refine ⟨fun _ => ?_, hK _ ?_⟩; (((go_at_call 71; first | exact calm_of (i_Itoa _ _ (by omega) (by omega) (HT.out.grew (by (repeat (first | with_reducible exact grew_refl _ | with_reducible assumption | with_reducible refine grew_split ?_ | with_reducible refine grew_mk ?_ | with_reducible refine grew_plus ?_ | with_reducible refine grew_alloc ?_ | with_reducible refine grew_drew ?_ | (with_reducible refine grew_set ?_ (by first | exact Nat.le_refl _ | omega | (simp [go_sem]; done) | (simp [go_sem]; omega)))))))) | exact calm_add (i_Itoa _ _ (by omega) (by omega) (HT.out.grew (by (repeat (first | with_reducible exact grew_refl _ | with_reducible assumption | with_reducible refine grew_split ?_ | with_reducible refine grew_mk ?_ | with_reducible refine grew_plus ?_ | with_reducible refine grew_alloc ?_ | with_reducible refine grew_drew ?_ | (with_reducible refine grew_set ?_ (by first | exact Nat.le_refl _ | omega | (simp [go_sem]; done) | (simp [go_sem]; omega))))))))))); clear hK K))))); all_goals (refine wpQuiet_nil ?_; intro _ hw'; obtain ⟨gq, hw''⟩ := hw'; subst hw''))
          go_wp2_with fail
          go_ret2
          exact ⟨ret_strb (by rw [HF.out]; simp [textC, stateT, bs, ByteArray.append_assoc]) (by rw [HF.out]), by (repeat (first | with_reducible exact grew_refl _ | with_reducible assumption | with_reducible refine grew_split ?_ | with_reducible refine grew_mk ?_ | with_reducible refine grew_plus ?_ | with_reducible refine grew_alloc ?_ | with_reducible refine grew_drew ?_ | (with_reducible refine grew_set ?_ (by first | exact Nat.le_refl _ | omega | (simp [go_sem]; done) | (simp [go_sem]; omega)))))⟩
set_option maxHeartbeats 2000000 in
theorem s_l25Text (v : DayV) (w : World) (hv : v.At w) (ho : v.core.ok = true) :
    Calls Tryz.prog 74 #[v.val] w fun e w' => e = .returned (.string (textC v.core)) ∧ ∃ g, w' = plus w g := by
  have HV := hid hv
  clear hv
  obtain ⟨⟨minute, state, lines, line, since, cast, fuel⟩, A, c⟩ := v
  obtain ⟨b1, b2, b3, b4, b5, b6, b7, b8, b9, b10, b11, b12, b13, b14⟩ := DayC.bounds ho
  simp only at b1 b2 b3 b4 b5 b6 b7 b8 b9 b10 b11 b12 b13 b14 ⊢
  clear ho
  have z1 := num_size minute (by omega) (by omega)
  have z2 := num_size line (by omega) (by omega)
  have z4 := num_size lines.length (by omega) (by omega)
  have z5 := num_size fuel (by omega) (by omega)
  obtain rfl | rfl | rfl : state = 0 ∨ state = 1 ∨ state = 2 := by omega
  · go_enter Tryz.func74, Tryz.ntmps74
    go_wp2_with (go_at_call 73; refine (s_l1Num _ _ (by omega) (by omega)).mono ?_; (rintro e w' ⟨rfl, gx, rfl⟩))
    go_loopw [4, 5] (fun n i wr => ∃ k : Nat, k ≤ lines.length ∧ i = .int .i64 k ∧ n = .int .i64 (doneTo lines k) ∧ (∃ g, wr = plus (w.alloc (.cells #[.int .i64 minute, .int .i64 0, .slice A lines.length c, .int .i64 line, .int .i64 since, .int .i64 cast, .int .i64 fuel] 41)) g)) (fun _ i _ => lines.length - (intOf i).toNat)
    case atStart => exact ⟨0, Nat.zero_le _, rfl, rfl, by (repeat (first | with_reducible exact grew_refl _ | with_reducible assumption | with_reducible refine grew_split ?_ | with_reducible refine grew_mk ?_ | with_reducible refine grew_plus ?_ | with_reducible refine grew_alloc ?_ | with_reducible refine grew_drew ?_ | (with_reducible refine grew_set ?_ (by first | exact Nat.le_refl _ | omega | (simp [go_sem]; done) | (simp [go_sem]; omega)))))⟩
    case round =>
      obtain ⟨k, hk, rfl, rfl, g, rfl⟩ := hrel
      by_cases hlt : k < lines.length
      · obtain ⟨b, off, rfl, hb, hc⟩ := HV.out.ln.at_ hlt
        obtain ⟨hc0, hc1⟩ := lcells hc hlt
        simp only at hb hc0 hc1
        have HS := hid (doneTo_succ hlt)
        have hd := doneTo_le lines k
        clear hc
        go_wp2
        all_goals
          go_roundw
          case rel => exact ⟨k + 1, by omega, by go_num, by rw [HS.out]; first | (rw [if_pos (by assumption)]; go_num) | (rw [if_neg (by assumption)]; go_num) | (simp [*]), by (repeat (first | with_reducible exact grew_refl _ | with_reducible assumption | with_reducible refine grew_split ?_ | with_reducible refine grew_mk ?_ | with_reducible refine grew_plus ?_ | with_reducible refine grew_alloc ?_ | with_reducible refine grew_drew ?_ | (with_reducible refine grew_set ?_ (by first | exact Nat.le_refl _ | omega | (simp [go_sem]; done) | (simp [go_sem]; omega)))))⟩
          case measure => simp [intOf]; omega
      · obtain rfl : k = lines.length := by omega
        have hd := doneTo_le lines lines.length
        have z3 := num_size (doneTo lines lines.length) (by omega) (by omega)
        go_wp2_with fail
        (refine wp_region_calm (by kernel_rfl) (by kernel_rfl) ?_; (repeat' (first | go_big_quiet_step ((go_at_call 73; first | exact calm_of (s_l1Num _ _ (by omega) (by omega)) | exact calm_add (s_l1Num _ _ (by omega) (by omega)))) | (refine wpQuiet_step (fun K hK => ?_); go_simp; go_ite <;> go_simp <;> (first | (refine hK _ ?_; clear hK K) | (apply Exists.intro; refine ⟨fun _ => ?_, hK _ ?_⟩; ((go_at_call 73; first | exact calm_of (s_l1Num _ _ (by omega) (by omega)) | exact calm_add (s_l1Num _ _ (by omega) (by omega)))); clear hK K))))); all_goals (refine wpQuiet_nil ?_; intro _ hw'; obtain ⟨gq, hw''⟩ := hw'; subst hw''))
        go_wp2_with fail
        go_ret
        exact ⟨ret_str (by simp [textC, stateT, bs, ByteArray.append_assoc]), by (repeat (first | with_reducible exact grew_refl _ | with_reducible assumption | with_reducible refine grew_split ?_ | with_reducible refine grew_mk ?_ | with_reducible refine grew_plus ?_ | with_reducible refine grew_alloc ?_ | with_reducible refine grew_drew ?_ | (with_reducible refine grew_set ?_ (by first | exact Nat.le_refl _ | omega | (simp [go_sem]; done) | (simp [go_sem]; omega)))))⟩
  · go_enter Tryz.func74, Tryz.ntmps74
    go_wp2_with (go_at_call 73; refine (s_l1Num _ _ (by omega) (by omega)).mono ?_; (rintro e w' ⟨rfl, gx, rfl⟩))
    go_loopw [4, 5] (fun n i wr => ∃ k : Nat, k ≤ lines.length ∧ i = .int .i64 k ∧ n = .int .i64 (doneTo lines k) ∧ (∃ g, wr = plus (w.alloc (.cells #[.int .i64 minute, .int .i64 1, .slice A lines.length c, .int .i64 line, .int .i64 since, .int .i64 cast, .int .i64 fuel] 41)) g)) (fun _ i _ => lines.length - (intOf i).toNat)
    case atStart => exact ⟨0, Nat.zero_le _, rfl, rfl, by (repeat (first | with_reducible exact grew_refl _ | with_reducible assumption | with_reducible refine grew_split ?_ | with_reducible refine grew_mk ?_ | with_reducible refine grew_plus ?_ | with_reducible refine grew_alloc ?_ | with_reducible refine grew_drew ?_ | (with_reducible refine grew_set ?_ (by first | exact Nat.le_refl _ | omega | (simp [go_sem]; done) | (simp [go_sem]; omega)))))⟩
    case round =>
      obtain ⟨k, hk, rfl, rfl, g, rfl⟩ := hrel
      by_cases hlt : k < lines.length
      · obtain ⟨b, off, rfl, hb, hc⟩ := HV.out.ln.at_ hlt
        obtain ⟨hc0, hc1⟩ := lcells hc hlt
        simp only at hb hc0 hc1
        have HS := hid (doneTo_succ hlt)
        have hd := doneTo_le lines k
        clear hc
        go_wp2
        all_goals
          go_roundw
          case rel => exact ⟨k + 1, by omega, by go_num, by rw [HS.out]; first | (rw [if_pos (by assumption)]; go_num) | (rw [if_neg (by assumption)]; go_num) | (simp [*]), by (repeat (first | with_reducible exact grew_refl _ | with_reducible assumption | with_reducible refine grew_split ?_ | with_reducible refine grew_mk ?_ | with_reducible refine grew_plus ?_ | with_reducible refine grew_alloc ?_ | with_reducible refine grew_drew ?_ | (with_reducible refine grew_set ?_ (by first | exact Nat.le_refl _ | omega | (simp [go_sem]; done) | (simp [go_sem]; omega)))))⟩
          case measure => simp [intOf]; omega
      · obtain rfl : k = lines.length := by omega
        have hd := doneTo_le lines lines.length
        have z3 := num_size (doneTo lines lines.length) (by omega) (by omega)
        go_wp2_with fail
        (refine wp_region_calm (by kernel_rfl) (by kernel_rfl) ?_; (repeat' (first | go_big_quiet_step ((go_at_call 73; first | exact calm_of (s_l1Num _ _ (by omega) (by omega)) | exact calm_add (s_l1Num _ _ (by omega) (by omega)))) | (refine wpQuiet_step (fun K hK => ?_); go_simp; go_ite <;> go_simp <;> (first | (refine hK _ ?_; clear hK K) | (apply Exists.intro; refine ⟨fun _ => ?_, hK _ ?_⟩; ((go_at_call 73; first | exact calm_of (s_l1Num _ _ (by omega) (by omega)) | exact calm_add (s_l1Num _ _ (by omega) (by omega)))); clear hK K))))); all_goals (refine wpQuiet_nil ?_; intro _ hw'; obtain ⟨gq, hw''⟩ := hw'; subst hw''))
        go_wp2_with fail
        go_ret
        exact ⟨ret_str (by simp [textC, stateT, bs, ByteArray.append_assoc]), by (repeat (first | with_reducible exact grew_refl _ | with_reducible assumption | with_reducible refine grew_split ?_ | with_reducible refine grew_mk ?_ | with_reducible refine grew_plus ?_ | with_reducible refine grew_alloc ?_ | with_reducible refine grew_drew ?_ | (with_reducible refine grew_set ?_ (by first | exact Nat.le_refl _ | omega | (simp [go_sem]; done) | (simp [go_sem]; omega)))))⟩
  · go_enter Tryz.func74, Tryz.ntmps74
    go_wp2_with (go_at_call 73; refine (s_l1Num _ _ (by omega) (by omega)).mono ?_; (rintro e w' ⟨rfl, gx, rfl⟩))
    go_loopw [4, 5] (fun n i wr => ∃ k : Nat, k ≤ lines.length ∧ i = .int .i64 k ∧ n = .int .i64 (doneTo lines k) ∧ (∃ g, wr = plus (w.alloc (.cells #[.int .i64 minute, .int .i64 2, .slice A lines.length c, .int .i64 line, .int .i64 since, .int .i64 cast, .int .i64 fuel] 41)) g)) (fun _ i _ => lines.length - (intOf i).toNat)
    case atStart => exact ⟨0, Nat.zero_le _, rfl, rfl, by (repeat (first | with_reducible exact grew_refl _ | with_reducible assumption | with_reducible refine grew_split ?_ | with_reducible refine grew_mk ?_ | with_reducible refine grew_plus ?_ | with_reducible refine grew_alloc ?_ | with_reducible refine grew_drew ?_ | (with_reducible refine grew_set ?_ (by first | exact Nat.le_refl _ | omega | (simp [go_sem]; done) | (simp [go_sem]; omega)))))⟩
    case round =>
      obtain ⟨k, hk, rfl, rfl, g, rfl⟩ := hrel
      by_cases hlt : k < lines.length
      · obtain ⟨b, off, rfl, hb, hc⟩ := HV.out.ln.at_ hlt
        obtain ⟨hc0, hc1⟩ := lcells hc hlt
        simp only at hb hc0 hc1
        have HS := hid (doneTo_succ hlt)
        have hd := doneTo_le lines k
        clear hc
        go_wp2
        all_goals
          go_roundw
          case rel => exact ⟨k + 1, by omega, by go_num, by rw [HS.out]; first | (rw [if_pos (by assumption)]; go_num) | (rw [if_neg (by assumption)]; go_num) | (simp [*]), by (repeat (first | with_reducible exact grew_refl _ | with_reducible assumption | with_reducible refine grew_split ?_ | with_reducible refine grew_mk ?_ | with_reducible refine grew_plus ?_ | with_reducible refine grew_alloc ?_ | with_reducible refine grew_drew ?_ | (with_reducible refine grew_set ?_ (by first | exact Nat.le_refl _ | omega | (simp [go_sem]; done) | (simp [go_sem]; omega)))))⟩
          case measure => simp [intOf]; omega
      · obtain rfl : k = lines.length := by omega
        have hd := doneTo_le lines lines.length
        have z3 := num_size (doneTo lines lines.length) (by omega) (by omega)
        go_wp2_with fail
        (refine wp_region_calm (by kernel_rfl) (by kernel_rfl) ?_; (repeat' (first | go_big_quiet_step ((go_at_call 73; first | exact calm_of (s_l1Num _ _ (by omega) (by omega)) | exact calm_add (s_l1Num _ _ (by omega) (by omega)))) | (refine wpQuiet_step (fun K hK => ?_); go_simp; go_ite <;> go_simp <;> (first | (refine hK _ ?_; clear hK K) | (apply Exists.intro; refine ⟨fun _ => ?_, hK _ ?_⟩; ((go_at_call 73; first | exact calm_of (s_l1Num _ _ (by omega) (by omega)) | exact calm_add (s_l1Num _ _ (by omega) (by omega)))); clear hK K))))); all_goals (refine wpQuiet_nil ?_; intro _ hw'; obtain ⟨gq, hw''⟩ := hw'; subst hw''))
        go_wp2_with fail
        go_ret
        exact ⟨ret_str (by simp [textC, stateT, bs, ByteArray.append_assoc]), by (repeat (first | with_reducible exact grew_refl _ | with_reducible assumption | with_reducible refine grew_split ?_ | with_reducible refine grew_mk ?_ | with_reducible refine grew_plus ?_ | with_reducible refine grew_alloc ?_ | with_reducible refine grew_drew ?_ | (with_reducible refine grew_set ?_ (by first | exact Nat.le_refl _ | omega | (simp [go_sem]; done) | (simp [go_sem]; omega)))))⟩
end Go.Proofs.YtonbgaipmlgndaaGreatDoor
