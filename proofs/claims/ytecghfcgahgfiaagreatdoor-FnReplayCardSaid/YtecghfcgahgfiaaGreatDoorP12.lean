import Derived.Test.YtecghfcgahgfiaaGreatDoorP11
import Derived.Test.YtecghfcgahgfiaaGreatDoorP10
import Derived.Test.YtecghfcgahgfiaaGreatDoorP3
/- Consoles: their values; which are valid, in both packages; the laws' conversions. Conditions: sizes that an int holds. -/
namespace Go.Proofs.YtecghfcgahgfiaaGreatDoor
open Go.RowKit

structure ConV where
  day : DayV
  log : LogR
abbrev ConV.val (v : ConV) : Value := .agg #[.int .i64 v.day.core.minute, .int .i64 v.day.core.state, .slice v.day.A v.day.core.lines.length v.day.c, .int .i64 v.day.core.line, .int .i64 v.day.core.since, .int .i64 v.day.core.cast, .int .i64 v.day.core.fuel, .string v.log.d, .string v.log.p, .int .i64 v.log.n]
def conOk (d : DayC) (l : LogR) : Bool := d.ok && l.ok
set_option maxHeartbeats 1000000 in
theorem i_IsValidConsole (v : DayV) (l : LogR) (o : Bool) (ho : conOk v.core l = o) (w : World) (hv : v.At w) (h1 : l.d.size ≤ 2097152) (h2 : l.p.size ≤ 2097152) (hE : Env w) :
    Calls Tryz.prog 11 #[ConV.val ⟨v, l⟩] w fun e w' => e = .returned (.bool o) ∧ ∃ g, w' = plus w g := by
  have HV := hid hv
  have HE := hid hE
  clear hv hE
  cases h3 : v.core.ok
  · obtain rfl : o = false := by rw [← ho, conOk, h3]; rfl
    have H3 := hid h3
    clear ho h3
    go_enter Tryz.func11, Tryz.ntmps11
    go_wp2_with fail
    refine (i_IsSurveyDay v _ H3.out _ (HV.out.grew (by (repeat (first | with_reducible exact grew_refl _ | with_reducible assumption | with_reducible refine grew_split ?_ | with_reducible refine grew_mk ?_ | with_reducible refine grew_plus ?_ | with_reducible refine grew_alloc ?_ | with_reducible refine grew_drew ?_ | (with_reducible refine grew_set ?_ (by first | exact Nat.le_refl _ | omega | (simp [go_sem]; done) | (simp [go_sem]; omega)))))))).mono ?_
    (rintro e w' ⟨rfl, gx, rfl⟩)
    go_wp2_with fail
    go_ret
    exact ⟨rfl, by (repeat (first | with_reducible exact grew_refl _ | with_reducible assumption | with_reducible refine grew_split ?_ | with_reducible refine grew_mk ?_ | with_reducible refine grew_plus ?_ | with_reducible refine grew_alloc ?_ | with_reducible refine grew_drew ?_ | (with_reducible refine grew_set ?_ (by first | exact Nat.le_refl _ | omega | (simp [go_sem]; done) | (simp [go_sem]; omega)))))⟩
  · have HO : Hid (l.ok = o) := hid (by rw [← ho, conOk, h3]; rfl)
    have H3 := hid h3
    clear ho h3
    go_enter Tryz.func11, Tryz.ntmps11
    go_wp2_with fail
    refine (i_IsSurveyDay v _ H3.out _ (HV.out.grew (by (repeat (first | with_reducible exact grew_refl _ | with_reducible assumption | with_reducible refine grew_split ?_ | with_reducible refine grew_mk ?_ | with_reducible refine grew_plus ?_ | with_reducible refine grew_alloc ?_ | with_reducible refine grew_drew ?_ | (with_reducible refine grew_set ?_ (by first | exact Nat.le_refl _ | omega | (simp [go_sem]; done) | (simp [go_sem]; omega)))))))).mono ?_
    (rintro e w' ⟨rfl, gx, rfl⟩)
    go_wp2_with fail
    refine (i_IsValidLog l _ HO.out _ h1 h2 (HE.out.grew (by (repeat (first | with_reducible exact grew_refl _ | with_reducible assumption | with_reducible refine grew_split ?_ | with_reducible refine grew_mk ?_ | with_reducible refine grew_plus ?_ | with_reducible refine grew_alloc ?_ | with_reducible refine grew_drew ?_ | (with_reducible refine grew_set ?_ (by first | exact Nat.le_refl _ | omega | (simp [go_sem]; done) | (simp [go_sem]; omega)))))))).mono ?_
    (rintro e w' ⟨rfl, gx, rfl⟩)
    go_wp2_with fail
    go_ret
    exact ⟨rfl, by (repeat (first | with_reducible exact grew_refl _ | with_reducible assumption | with_reducible refine grew_split ?_ | with_reducible refine grew_mk ?_ | with_reducible refine grew_plus ?_ | with_reducible refine grew_alloc ?_ | with_reducible refine grew_drew ?_ | (with_reducible refine grew_set ?_ (by first | exact Nat.le_refl _ | omega | (simp [go_sem]; done) | (simp [go_sem]; omega)))))⟩
set_option maxHeartbeats 1000000 in
theorem s_l28Good (v : DayV) (l : LogR) (o : Bool) (ho : conOk v.core l = o) (w : World) (hv : v.At w) (h1 : l.d.size ≤ 2097152) (h2 : l.p.size ≤ 2097152) (hE : Env w) :
    Calls Tryz.prog 38 #[ConV.val ⟨v, l⟩] w fun e w' => e = .returned (.bool o) ∧ ∃ g, w' = plus w g := by
  have HV := hid hv
  have HE := hid hE
  clear hv hE
  cases h3 : v.core.ok
  · obtain rfl : o = false := by rw [← ho, conOk, h3]; rfl
    have H3 := hid h3
    clear ho h3
    go_enter Tryz.func38, Tryz.ntmps38
    go_wp2_with fail
    refine (s_l25Good v _ H3.out _ (HV.out.grew (by (repeat (first | with_reducible exact grew_refl _ | with_reducible assumption | with_reducible refine grew_split ?_ | with_reducible refine grew_mk ?_ | with_reducible refine grew_plus ?_ | with_reducible refine grew_alloc ?_ | with_reducible refine grew_drew ?_ | (with_reducible refine grew_set ?_ (by first | exact Nat.le_refl _ | omega | (simp [go_sem]; done) | (simp [go_sem]; omega)))))))).mono ?_
    (rintro e w' ⟨rfl, gx, rfl⟩)
    go_wp2_with fail
    go_ret
    exact ⟨rfl, by (repeat (first | with_reducible exact grew_refl _ | with_reducible assumption | with_reducible refine grew_split ?_ | with_reducible refine grew_mk ?_ | with_reducible refine grew_plus ?_ | with_reducible refine grew_alloc ?_ | with_reducible refine grew_drew ?_ | (with_reducible refine grew_set ?_ (by first | exact Nat.le_refl _ | omega | (simp [go_sem]; done) | (simp [go_sem]; omega)))))⟩
  · have HO : Hid (l.ok = o) := hid (by rw [← ho, conOk, h3]; rfl)
    have H3 := hid h3
    clear ho h3
    go_enter Tryz.func38, Tryz.ntmps38
    go_wp2_with fail
    refine (s_l25Good v _ H3.out _ (HV.out.grew (by (repeat (first | with_reducible exact grew_refl _ | with_reducible assumption | with_reducible refine grew_split ?_ | with_reducible refine grew_mk ?_ | with_reducible refine grew_plus ?_ | with_reducible refine grew_alloc ?_ | with_reducible refine grew_drew ?_ | (with_reducible refine grew_set ?_ (by first | exact Nat.le_refl _ | omega | (simp [go_sem]; done) | (simp [go_sem]; omega)))))))).mono ?_
    (rintro e w' ⟨rfl, gx, rfl⟩)
    go_wp2_with fail
    refine (s_l27Log l _ HO.out _ h1 h2).mono ?_
    (rintro e w' ⟨rfl, gx, rfl⟩)
    go_wp2_with fail
    go_ret
    exact ⟨rfl, by (repeat (first | with_reducible exact grew_refl _ | with_reducible assumption | with_reducible refine grew_split ?_ | with_reducible refine grew_mk ?_ | with_reducible refine grew_plus ?_ | with_reducible refine grew_alloc ?_ | with_reducible refine grew_drew ?_ | (with_reducible refine grew_set ?_ (by first | exact Nat.le_refl _ | omega | (simp [go_sem]; done) | (simp [go_sem]; omega)))))⟩
set_option maxHeartbeats 1000000 in
theorem s_IsValidConsole (v : DayV) (l : LogR) (o : Bool) (ho : conOk v.core l = o) (w : World) (hv : v.At w) (h1 : l.d.size ≤ 2097152) (h2 : l.p.size ≤ 2097152) (hE : Env w) :
    Calls Tryz.prog 12 #[ConV.val ⟨v, l⟩] w fun e w' => e = .returned (.bool o) ∧ ∃ g, w' = plus w g := by
  have HV := hid hv
  have HE := hid hE
  have HO := hid ho
  clear hv hE ho
  go_enter Tryz.func12, Tryz.ntmps12
  go_wp2_with fail
  refine (s_l28Good v l o HO.out _ (HV.out.grew (by (repeat (first | with_reducible exact grew_refl _ | with_reducible assumption | with_reducible refine grew_split ?_ | with_reducible refine grew_mk ?_ | with_reducible refine grew_plus ?_ | with_reducible refine grew_alloc ?_ | with_reducible refine grew_drew ?_ | (with_reducible refine grew_set ?_ (by first | exact Nat.le_refl _ | omega | (simp [go_sem]; done) | (simp [go_sem]; omega))))))) h1 h2 (HE.out.grew (by (repeat (first | with_reducible exact grew_refl _ | with_reducible assumption | with_reducible refine grew_split ?_ | with_reducible refine grew_mk ?_ | with_reducible refine grew_plus ?_ | with_reducible refine grew_alloc ?_ | with_reducible refine grew_drew ?_ | (with_reducible refine grew_set ?_ (by first | exact Nat.le_refl _ | omega | (simp [go_sem]; done) | (simp [go_sem]; omega)))))))).mono ?_
  (rintro e w' ⟨rfl, gx, rfl⟩)
  go_wp2_with fail
  go_ret
  exact ⟨rfl, by (repeat (first | with_reducible exact grew_refl _ | with_reducible assumption | with_reducible refine grew_split ?_ | with_reducible refine grew_mk ?_ | with_reducible refine grew_plus ?_ | with_reducible refine grew_alloc ?_ | with_reducible refine grew_drew ?_ | (with_reducible refine grew_set ?_ (by first | exact Nat.le_refl _ | omega | (simp [go_sem]; done) | (simp [go_sem]; omega)))))⟩
end Go.Proofs.YtecghfcgahgfiaaGreatDoor
/- The text of a survey day, in both packages. -/
namespace Go.Proofs.YtecghfcgahgfiaaGreatDoor
open Go.RowKit

def bs (l : List UInt8) : ByteArray := ⟨l.toArray⟩
def doneTo (l : List LineR) (k : Nat) : Nat := ((l.take k).filter fun r => r.done).length
theorem doneTo_succ {l : List LineR} {k : Nat} (h : k < l.length) : doneTo l (k + 1) = doneTo l k + if l[k].done then 1 else 0 := by
  unfold doneTo; rw [List.take_succ_eq_append_getElem h, List.filter_append, List.length_append]
  cases h2 : l[k].done <;> simp [h2]
theorem doneTo_le (l : List LineR) (k : Nat) : doneTo l k ≤ k := by
  unfold doneTo
  have h1 := List.length_filter_le (fun r : LineR => r.done) (l.take k)
  have h2 := List.length_take_le k l
  omega
def stateT (v : DayC) : ByteArray := if v.state = 0 then bs [109, 111, 111, 114, 101, 100] else if v.state = 1 then bs [117, 110, 100, 101, 114, 32, 119, 97, 121] else bs [111, 110, 32, 108, 105, 110, 101, 32] ++ num v.line
def textC (v : DayC) : ByteArray := num v.minute ++ bs [32] ++ stateT v ++ bs [59, 32, 100, 111, 110, 101, 32] ++ num (doneTo v.lines v.lines.length) ++ bs [47] ++ num v.lines.length ++ bs [59, 32, 102, 117, 101, 108, 32] ++ num v.fuel
def textF (v : DayC) : ByteArray × Bool := if v.ok then (textC v, true) else (ByteArray.empty, false)
set_option maxHeartbeats 2000000 in
theorem i_SurveyDayText (v : DayV) (w : World) (hv : v.At w) (hT : Tab w) :
    Calls Tryz.prog 48 #[v.val] w fun e w' => e = .returned (.tuple #[.string (textF v.core).1, .bool (textF v.core).2]) ∧ ∃ g, w' = plus w g := by
  have HV := hid hv
  have HT := hid hT
  clear hv hT
  cases ho : v.core.ok
  · have HF : Hid (textF v.core = (ByteArray.empty, false)) := hid (by simp [textF, ho])
    go_enter Tryz.func48, Tryz.ntmps48
    go_wp2_with (go_at_call 42; refine (i_IsSurveyDay v _ ho _ (HV.out.alloc _)).mono ?_; (rintro e w' ⟨rfl, gx, rfl⟩))
    go_ret2
    exact ⟨ret_strb (by rw [HF.out]; rfl) (by rw [HF.out]), by (repeat (first | with_reducible exact grew_refl _ | with_reducible assumption | with_reducible refine grew_split ?_ | with_reducible refine grew_mk ?_ | with_reducible refine grew_plus ?_ | with_reducible refine grew_alloc ?_ | with_reducible refine grew_drew ?_ | (with_reducible refine grew_set ?_ (by first | exact Nat.le_refl _ | omega | (simp [go_sem]; done) | (simp [go_sem]; omega)))))⟩
  · have HF : Hid (textF v.core = (textC v.core, true)) := hid (by simp [textF, ho])
    obtain ⟨⟨minute, state, lines, line, since, cast, fuel⟩, A, c⟩ := v
    obtain ⟨b1, b2, b3, b4, b5, b6, b7, b8, b9, b10, b11, b12, b13, b14⟩ := DayC.bounds ho
    simp only at b1 b2 b3 b4 b5 b6 b7 b8 b9 b10 b11 b12 b13 b14 ⊢
    go_enter Tryz.func48, Tryz.ntmps48
    go_wp2_with fail
    refine (i_IsSurveyDay _ _ ho _ (HV.out.alloc _)).mono ?_
    (rintro e w' ⟨rfl, gx, rfl⟩)
    go_wp2_with fail
    go_loopw [14, 4] (fun i n wr => ∃ k : Nat, k ≤ lines.length ∧ i = .int .i64 k ∧ n = .int .i64 (doneTo lines k) ∧ (∃ g, wr = plus (w.alloc (.cells #[.int .i64 minute, .int .i64 state, .slice A lines.length c, .int .i64 line, .int .i64 since, .int .i64 cast, .int .i64 fuel] 26)) g)) (fun i _ _ => lines.length - (intOf i).toNat)
    case atStart => exact ⟨0, Nat.zero_le _, rfl, rfl, by (repeat (first | with_reducible exact grew_refl _ | with_reducible assumption | with_reducible refine grew_split ?_ | with_reducible refine grew_mk ?_ | with_reducible refine grew_plus ?_ | with_reducible refine grew_alloc ?_ | with_reducible refine grew_drew ?_ | (with_reducible refine grew_set ?_ (by first | exact Nat.le_refl _ | omega | (simp [go_sem]; done) | (simp [go_sem]; omega)))))⟩
    case round =>
      obtain ⟨k, hk, rfl, rfl, g, rfl⟩ := hrel
      by_cases hlt : k < lines.length
      · obtain ⟨b, off, rfl, hb, hc⟩ := HV.out.ln.at_ hlt
        obtain ⟨hc0, hc1⟩ := lcells hc hlt
        simp only at hb hc0 hc1
        have HS := hid (doneTo_succ hlt)
        have hd := doneTo_le lines k
        clear hc
        go_wp2
        all_goals
          go_roundw
          case rel => exact ⟨k + 1, by omega, by go_num, by rw [HS.out]; first | (rw [if_pos (by assumption)]; go_num) | (rw [if_neg (by assumption)]; go_num) | (simp [*]), by (repeat (first | with_reducible exact grew_refl _ | with_reducible assumption | with_reducible refine grew_split ?_ | with_reducible refine grew_mk ?_ | with_reducible refine grew_plus ?_ | with_reducible refine grew_alloc ?_ | with_reducible refine grew_drew ?_ | (with_reducible refine grew_set ?_ (by first | exact Nat.le_refl _ | omega | (simp [go_sem]; done) | (simp [go_sem]; omega)))))⟩
          case measure => simp [intOf]; omega
      · obtain rfl : k = lines.length := by omega
        have hd := doneTo_le lines lines.length
        have z1 := num_size minute (by omega) (by omega)
        have z2 := num_size line (by omega) (by omega)
        have z3 := num_size (doneTo lines lines.length) (by omega) (by omega)
        have z4 := num_size lines.length (by omega) (by omega)
        have z5 := num_size fuel (by omega) (by omega)
        have i0 : ∀ (W : World) (x y z : Value), (Instr.index 114 (.agg #[x, y, z]) (.int .i64 0)).run Tryz.prog W = .ok x W := fun _ _ _ _ => by kernel_rfl
        have i1 : ∀ (W : World) (x y z : Value), (Instr.index 114 (.agg #[x, y, z]) (.int .i64 1)).run Tryz.prog W = .ok y W := fun _ _ _ _ => by kernel_rfl
        have i2 : ∀ (W : World) (x y z : Value), (Instr.index 114 (.agg #[x, y, z]) (.int .i64 2)).run Tryz.prog W = .ok z W := fun _ _ _ _ => by kernel_rfl
        obtain hst | hst | hst : state = 0 ∨ state = 1 ∨ state = 2 := by omega
        all_goals
          subst hst
          go_wp2_with fail
          (refine wp_region_calm (by kernel_rfl) (by kernel_rfl) ?_; (repeat' (first | go_big_quiet_step (((go_at_call 47; first | exact calm_of (i_Itoa _ _ (by omega) (by omega) (HT.out.grew (by (repeat (first | with_reducible exact grew_refl _ | with_reducible assumption | with_reducible refine grew_split ?_ | with_reducible refine grew_mk ?_ | with_reducible refine grew_plus ?_ | with_reducible refine grew_alloc ?_ | with_reducible refine grew_drew ?_ | (with_reducible refine grew_set ?_ (by first | exact Nat.le_refl _ | omega | (simp [go_sem]; done) | (simp [go_sem]; omega)))))))) | exact calm_add (i_Itoa _ _ (by omega) (by omega) (HT.out.grew (by (repeat (first | with_reducible exact grew_refl _ | with_reducible assumption | with_reducible refine grew_split ?_ | with_reducible refine grew_mk ?_ | with_reducible refine grew_plus ?_ | with_reducible refine grew_alloc ?_ | with_reducible refine grew_drew ?_ | (with_reducible refine grew_set ?_ (by first | exact Nat.le_refl _ | omega | (simp [go_sem]; done) | (simp [go_sem]; omega))))))))))) | (refine wpQuiet_step (fun K hK => ?_); go_simp; go_ite <;> go_simp <;> (first | (refine hK _ ?_; clear hK K) | (apply Exists.intro; refine ⟨fun _ => ?_, hK _ ?_⟩; (((go_at_call 47; first | exact calm_of (i_Itoa _ _ (by omega) (by omega) (HT.out.grew (by (repeat (first | with_reducible exact grew_refl _ | with_reducible assumption | with_reducible refine grew_split ?_ | with_reducible refine grew_mk ?_ | with_reducible refine grew_plus ?_ | with_reducible refine grew_alloc ?_ | with_reducible refine grew_drew ?_ | (with_reducible refine grew_set ?_ (by first | exact Nat.le_refl _ | omega | (simp [go_sem]; done) | (simp [go_sem]; omega)))))))) | exact calm_add (i_Itoa _ _ (by omega) (by omega) (HT.out.grew (by (repeat (first | with_reducible exact grew_refl _ | with_reducible assumption | with_reducible refine grew_split ?_ | with_reducible refine grew_mk ?_ | with_reducible refine grew_plus ?_ | with_reducible refine grew_alloc ?_ | with_reducible refine grew_drew ?_ | (with_reducible refine grew_set ?_ (by first | exact Nat.le_refl _ | omega | (simp [go_sem]; done) | (simp [go_sem]; omega))))))))))); clear hK K))))); all_goals (refine wpQuiet_nil ?_; intro _ hw'; obtain ⟨gq, hw''⟩ := hw'; subst hw''))
          go_wp2_with fail
          (refine wp_region_calm (by kernel_rfl) (by kernel_rfl) ?_; (repeat' (first | go_big_quiet_step (((go_at_call 47; first | exact calm_of (i_Itoa _ _ (by omega) (by omega) (HT.out.grew (by (repeat (first | with_reducible exact grew_refl _ | with_reducible assumption | with_reducible refine grew_split ?_ | with_reducible refine grew_mk ?_ | with_reducible refine grew_plus ?_ | with_reducible refine grew_alloc ?_ | with_reducible refine grew_drew ?_ | (with_reducible refine grew_set ?_ (by first | exact Nat.le_refl _ | omega | (simp [go_sem]; done) | (simp [go_sem]; omega)))))))) | exact calm_add (i_Itoa _ _ (by omega) (by omega) (HT.out.grew (by (repeat (first | with_reducible exact grew_refl _ | with_reducible assumption | with_reducible refine grew_split ?_ | with_reducible refine grew_mk ?_ | with_reducible refine grew_plus ?_ | with_reducible refine grew_alloc ?_ | with_reducible refine grew_drew ?_ | (with_reducible refine grew_set ?_ (by first | exact Nat.le_refl _ | omega | (simp [go_sem]; done) | (simp [go_sem]; omega))))))))))) | (refine wpQuiet_step (fun K hK => ?_); go_simp; go_ite <;> go_simp <;> (first | (refine hK _ ?_; clear hK K) | (apply Exists.intro; refine ⟨fun _ => ?_, hK _ ?_⟩; (((go_at_call 47; first | exact calm_of (i_Itoa _ _ (by omega) (by omega) (HT.out.grew (by (repeat (first | with_reducible exact grew_refl _ | with_reducible assumption | with_reducible refine grew_split ?_ | with_reducible refine grew_mk ?_ | with_reducible refine grew_plus ?_ | with_reducible refine grew_alloc ?_ | with_reducible refine grew_drew ?_ | (with_reducible refine grew_set ?_ (by first | exact Nat.le_refl _ | omega | (simp [go_sem]; done) | (simp [go_sem]; omega)))))))) | exact calm_add (i_Itoa _ _ (by omega) (by omega) (HT.out.grew (by (repeat (first | with_reducible exact grew_refl _ | with_reducible assumption | with_reducible refine grew_split ?_ | with_reducible refine grew_mk ?_ | with_reducible refine grew_plus ?_ | with_reducible refine grew_alloc ?_ | with_reducible refine grew_drew ?_ | (with_reducible refine grew_set ?_ (by first | exact Nat.le_refl _ | omega | (simp [go_sem]; done) | (simp [go_sem]; omega))))))))))); clear hK K))))); all_goals (refine wpQuiet_nil ?_; intro _ hw'; obtain ⟨gq, hw''⟩ := hw'; subst hw''))
          go_wp2_with fail
          go_ret2
          exact ⟨ret_strb (by rw [HF.out]; simp [textC, stateT, bs, ByteArray.append_assoc]) (by rw [HF.out]), by (repeat (first | with_reducible exact grew_refl _ | with_reducible assumption | with_reducible refine grew_split ?_ | with_reducible refine grew_mk ?_ | with_reducible refine grew_plus ?_ | with_reducible refine grew_alloc ?_ | with_reducible refine grew_drew ?_ | (with_reducible refine grew_set ?_ (by first | exact Nat.le_refl _ | omega | (simp [go_sem]; done) | (simp [go_sem]; omega)))))⟩
set_option maxHeartbeats 2000000 in
theorem s_l25Text (v : DayV) (w : World) (hv : v.At w) (ho : v.core.ok = true) :
    Calls Tryz.prog 50 #[v.val] w fun e w' => e = .returned (.string (textC v.core)) ∧ ∃ g, w' = plus w g := by
  have HV := hid hv
  clear hv
  obtain ⟨⟨minute, state, lines, line, since, cast, fuel⟩, A, c⟩ := v
  obtain ⟨b1, b2, b3, b4, b5, b6, b7, b8, b9, b10, b11, b12, b13, b14⟩ := DayC.bounds ho
  simp only at b1 b2 b3 b4 b5 b6 b7 b8 b9 b10 b11 b12 b13 b14 ⊢
  clear ho
  have z1 := num_size minute (by omega) (by omega)
  have z2 := num_size line (by omega) (by omega)
  have z4 := num_size lines.length (by omega) (by omega)
  have z5 := num_size fuel (by omega) (by omega)
  obtain rfl | rfl | rfl : state = 0 ∨ state = 1 ∨ state = 2 := by omega
  · go_enter Tryz.func50, Tryz.ntmps50
    go_wp2_with (go_at_call 49; refine (s_l1Num _ _ (by omega) (by omega)).mono ?_; (rintro e w' ⟨rfl, gx, rfl⟩))
    go_loopw [4, 5] (fun n i wr => ∃ k : Nat, k ≤ lines.length ∧ i = .int .i64 k ∧ n = .int .i64 (doneTo lines k) ∧ (∃ g, wr = plus (w.alloc (.cells #[.int .i64 minute, .int .i64 0, .slice A lines.length c, .int .i64 line, .int .i64 since, .int .i64 cast, .int .i64 fuel] 26)) g)) (fun _ i _ => lines.length - (intOf i).toNat)
    case atStart => exact ⟨0, Nat.zero_le _, rfl, rfl, by (repeat (first | with_reducible exact grew_refl _ | with_reducible assumption | with_reducible refine grew_split ?_ | with_reducible refine grew_mk ?_ | with_reducible refine grew_plus ?_ | with_reducible refine grew_alloc ?_ | with_reducible refine grew_drew ?_ | (with_reducible refine grew_set ?_ (by first | exact Nat.le_refl _ | omega | (simp [go_sem]; done) | (simp [go_sem]; omega)))))⟩
    case round =>
      obtain ⟨k, hk, rfl, rfl, g, rfl⟩ := hrel
      by_cases hlt : k < lines.length
      · obtain ⟨b, off, rfl, hb, hc⟩ := HV.out.ln.at_ hlt
        obtain ⟨hc0, hc1⟩ := lcells hc hlt
        simp only at hb hc0 hc1
        have HS := hid (doneTo_succ hlt)
        have hd := doneTo_le lines k
        clear hc
        go_wp2
        all_goals
          go_roundw
          case rel => exact ⟨k + 1, by omega, by go_num, by rw [HS.out]; first | (rw [if_pos (by assumption)]; go_num) | (rw [if_neg (by assumption)]; go_num) | (simp [*]), by (repeat (first | with_reducible exact grew_refl _ | with_reducible assumption | with_reducible refine grew_split ?_ | with_reducible refine grew_mk ?_ | with_reducible refine grew_plus ?_ | with_reducible refine grew_alloc ?_ | with_reducible refine grew_drew ?_ | (with_reducible refine grew_set ?_ (by first | exact Nat.le_refl _ | omega | (simp [go_sem]; done) | (simp [go_sem]; omega)))))⟩
          case measure => simp [intOf]; omega
      · obtain rfl : k = lines.length := by omega
        have hd := doneTo_le lines lines.length
        have z3 := num_size (doneTo lines lines.length) (by omega) (by omega)
        go_wp2_with fail
        (refine wp_region_calm (by kernel_rfl) (by kernel_rfl) ?_; (repeat' (first | go_big_quiet_step ((go_at_call 49; first | exact calm_of (s_l1Num _ _ (by omega) (by omega)) | exact calm_add (s_l1Num _ _ (by omega) (by omega)))) | (refine wpQuiet_step (fun K hK => ?_); go_simp; go_ite <;> go_simp <;> (first | (refine hK _ ?_; clear hK K) | (apply Exists.intro; refine ⟨fun _ => ?_, hK _ ?_⟩; ((go_at_call 49; first | exact calm_of (s_l1Num _ _ (by omega) (by omega)) | exact calm_add (s_l1Num _ _ (by omega) (by omega)))); clear hK K))))); all_goals (refine wpQuiet_nil ?_; intro _ hw'; obtain ⟨gq, hw''⟩ := hw'; subst hw''))
        go_wp2_with fail
        go_ret
        exact ⟨ret_str (by simp [textC, stateT, bs, ByteArray.append_assoc]), by (repeat (first | with_reducible exact grew_refl _ | with_reducible assumption | with_reducible refine grew_split ?_ | with_reducible refine grew_mk ?_ | with_reducible refine grew_plus ?_ | with_reducible refine grew_alloc ?_ | with_reducible refine grew_drew ?_ | (with_reducible refine grew_set ?_ (by first | exact Nat.le_refl _ | omega | (simp [go_sem]; done) | (simp [go_sem]; omega)))))⟩
  · go_enter Tryz.func50, Tryz.ntmps50
    go_wp2_with (go_at_call 49; refine (s_l1Num _ _ (by omega) (by omega)).mono ?_; (rintro e w' ⟨rfl, gx, rfl⟩))
    go_loopw [4, 5] (fun n i wr => ∃ k : Nat, k ≤ lines.length ∧ i = .int .i64 k ∧ n = .int .i64 (doneTo lines k) ∧ (∃ g, wr = plus (w.alloc (.cells #[.int .i64 minute, .int .i64 1, .slice A lines.length c, .int .i64 line, .int .i64 since, .int .i64 cast, .int .i64 fuel] 26)) g)) (fun _ i _ => lines.length - (intOf i).toNat)
    case atStart => exact ⟨0, Nat.zero_le _, rfl, rfl, by (repeat (first | with_reducible exact grew_refl _ | with_reducible assumption | with_reducible refine grew_split ?_ | with_reducible refine grew_mk ?_ | with_reducible refine grew_plus ?_ | with_reducible refine grew_alloc ?_ | with_reducible refine grew_drew ?_ | (with_reducible refine grew_set ?_ (by first | exact Nat.le_refl _ | omega | (simp [go_sem]; done) | (simp [go_sem]; omega)))))⟩
    case round =>
      obtain ⟨k, hk, rfl, rfl, g, rfl⟩ := hrel
      by_cases hlt : k < lines.length
      · obtain ⟨b, off, rfl, hb, hc⟩ := HV.out.ln.at_ hlt
        obtain ⟨hc0, hc1⟩ := lcells hc hlt
        simp only at hb hc0 hc1
        have HS := hid (doneTo_succ hlt)
        have hd := doneTo_le lines k
        clear hc
        go_wp2
        all_goals
          go_roundw
          case rel => exact ⟨k + 1, by omega, by go_num, by rw [HS.out]; first | (rw [if_pos (by assumption)]; go_num) | (rw [if_neg (by assumption)]; go_num) | (simp [*]), by (repeat (first | with_reducible exact grew_refl _ | with_reducible assumption | with_reducible refine grew_split ?_ | with_reducible refine grew_mk ?_ | with_reducible refine grew_plus ?_ | with_reducible refine grew_alloc ?_ | with_reducible refine grew_drew ?_ | (with_reducible refine grew_set ?_ (by first | exact Nat.le_refl _ | omega | (simp [go_sem]; done) | (simp [go_sem]; omega)))))⟩
          case measure => simp [intOf]; omega
      · obtain rfl : k = lines.length := by omega
        have hd := doneTo_le lines lines.length
        have z3 := num_size (doneTo lines lines.length) (by omega) (by omega)
        go_wp2_with fail
        (refine wp_region_calm (by kernel_rfl) (by kernel_rfl) ?_; (repeat' (first | go_big_quiet_step ((go_at_call 49; first | exact calm_of (s_l1Num _ _ (by omega) (by omega)) | exact calm_add (s_l1Num _ _ (by omega) (by omega)))) | (refine wpQuiet_step (fun K hK => ?_); go_simp; go_ite <;> go_simp <;> (first | (refine hK _ ?_; clear hK K) | (apply Exists.intro; refine ⟨fun _ => ?_, hK _ ?_⟩; ((go_at_call 49; first | exact calm_of (s_l1Num _ _ (by omega) (by omega)) | exact calm_add (s_l1Num _ _ (by omega) (by omega)))); clear hK K))))); all_goals (refine wpQuiet_nil ?_; intro _ hw'; obtain ⟨gq, hw''⟩ := hw'; subst hw''))
        go_wp2_with fail
        go_ret
        exact ⟨ret_str (by simp [textC, stateT, bs, ByteArray.append_assoc]), by (repeat (first | with_reducible exact grew_refl _ | with_reducible assumption | with_reducible refine grew_split ?_ | with_reducible refine grew_mk ?_ | with_reducible refine grew_plus ?_ | with_reducible refine grew_alloc ?_ | with_reducible refine grew_drew ?_ | (with_reducible refine grew_set ?_ (by first | exact Nat.le_refl _ | omega | (simp [go_sem]; done) | (simp [go_sem]; omega)))))⟩
  · go_enter Tryz.func50, Tryz.ntmps50
    go_wp2_with (go_at_call 49; refine (s_l1Num _ _ (by omega) (by omega)).mono ?_; (rintro e w' ⟨rfl, gx, rfl⟩))
    go_loopw [4, 5] (fun n i wr => ∃ k : Nat, k ≤ lines.length ∧ i = .int .i64 k ∧ n = .int .i64 (doneTo lines k) ∧ (∃ g, wr = plus (w.alloc (.cells #[.int .i64 minute, .int .i64 2, .slice A lines.length c, .int .i64 line, .int .i64 since, .int .i64 cast, .int .i64 fuel] 26)) g)) (fun _ i _ => lines.length - (intOf i).toNat)
    case atStart => exact ⟨0, Nat.zero_le _, rfl, rfl, by (repeat (first | with_reducible exact grew_refl _ | with_reducible assumption | with_reducible refine grew_split ?_ | with_reducible refine grew_mk ?_ | with_reducible refine grew_plus ?_ | with_reducible refine grew_alloc ?_ | with_reducible refine grew_drew ?_ | (with_reducible refine grew_set ?_ (by first | exact Nat.le_refl _ | omega | (simp [go_sem]; done) | (simp [go_sem]; omega)))))⟩
    case round =>
      obtain ⟨k, hk, rfl, rfl, g, rfl⟩ := hrel
      by_cases hlt : k < lines.length
      · obtain ⟨b, off, rfl, hb, hc⟩ := HV.out.ln.at_ hlt
        obtain ⟨hc0, hc1⟩ := lcells hc hlt
        simp only at hb hc0 hc1
        have HS := hid (doneTo_succ hlt)
        have hd := doneTo_le lines k
        clear hc
        go_wp2
        all_goals
          go_roundw
          case rel => exact ⟨k + 1, by omega, by go_num, by rw [HS.out]; first | (rw [if_pos (by assumption)]; go_num) | (rw [if_neg (by assumption)]; go_num) | (simp [*]), by (repeat (first | with_reducible exact grew_refl _ | with_reducible assumption | with_reducible refine grew_split ?_ | with_reducible refine grew_mk ?_ | with_reducible refine grew_plus ?_ | with_reducible refine grew_alloc ?_ | with_reducible refine grew_drew ?_ | (with_reducible refine grew_set ?_ (by first | exact Nat.le_refl _ | omega | (simp [go_sem]; done) | (simp [go_sem]; omega)))))⟩
          case measure => simp [intOf]; omega
      · obtain rfl : k = lines.length := by omega
        have hd := doneTo_le lines lines.length
        have z3 := num_size (doneTo lines lines.length) (by omega) (by omega)
        go_wp2_with fail
        (refine wp_region_calm (by kernel_rfl) (by kernel_rfl) ?_; (repeat' (first | go_big_quiet_step ((go_at_call 49; first | exact calm_of (s_l1Num _ _ (by omega) (by omega)) | exact calm_add (s_l1Num _ _ (by omega) (by omega)))) | (refine wpQuiet_step (fun K hK => ?_); go_simp; go_ite <;> go_simp <;> (first | (refine hK _ ?_; clear hK K) | (apply Exists.intro; refine ⟨fun _ => ?_, hK _ ?_⟩; ((go_at_call 49; first | exact calm_of (s_l1Num _ _ (by omega) (by omega)) | exact calm_add (s_l1Num _ _ (by omega) (by omega)))); clear hK K))))); all_goals (refine wpQuiet_nil ?_; intro _ hw'; obtain ⟨gq, hw''⟩ := hw'; subst hw''))
        go_wp2_with fail
        go_ret
        exact ⟨ret_str (by simp [textC, stateT, bs, ByteArray.append_assoc]), by (repeat (first | with_reducible exact grew_refl _ | with_reducible assumption | with_reducible refine grew_split ?_ | with_reducible refine grew_mk ?_ | with_reducible refine grew_plus ?_ | with_reducible refine grew_alloc ?_ | with_reducible refine grew_drew ?_ | (with_reducible refine grew_set ?_ (by first | exact Nat.le_refl _ | omega | (simp [go_sem]; done) | (simp [go_sem]; omega)))))⟩
end Go.Proofs.YtecghfcgahgfiaaGreatDoor
