import Derived.Test.YtecghfcgahgfiaaGreatDoorP12
import Derived.Test.YtecghfcgahgfiaaGreatDoorP18
/- The text of a console, in both packages. -/
namespace Go.Proofs.YtecghfcgahgfiaaGreatDoor
open Go.RowKit

/-- The lines of a console's text, as far as k. -/
def fmtTo (l : List LineR) : Nat → ByteArray
  | 0 => ⟨#[]⟩
  | k + 1 => fmtTo l k ++ (num ((k : Int) + 1) ++ bs [58, 32] ++ num (if h : k < l.length then l[k].minutes else 0) ++ (if doneAt l k then bs [32, 100, 111, 110, 101] else ⟨#[]⟩) ++ bs [10])
theorem fmtTo_done {l : List LineR} {k : Nat} (h : k < l.length) (hd : l[k].done = true) : fmtTo l (k + 1) = fmtTo l k ++ (num ((k : Int) + 1) ++ bs [58, 32] ++ num l[k].minutes) ++ bs [32, 100, 111, 110, 101] ++ bs [10] := by
  simp [fmtTo, h, doneAt, hd, ByteArray.append_assoc]
theorem fmtTo_open {l : List LineR} {k : Nat} (h : k < l.length) (hd : l[k].done = false) : fmtTo l (k + 1) = fmtTo l k ++ (num ((k : Int) + 1) ++ bs [58, 32] ++ num l[k].minutes) ++ bs [10] := by
  have e : bs [10] = (⟨#[]⟩ : ByteArray) ++ bs [10] := rfl
  simp only [fmtTo, h, doneAt, hd, dite_true, ByteArray.append_assoc]
  rfl
theorem fmtTo_size {l : List LineR} : ∀ {k : Nat}, k ≤ l.length → k ≤ 1000000 → (∀ j (h : j < l.length), 1 ≤ l[j].minutes ∧ l[j].minutes ≤ 300) → (fmtTo l k).size ≤ 40 * k := by
  intro k
  induction k with
  | zero => intro _ _ _; exact Nat.le_refl 0
  | succ k ih =>
    intro hk hm hl
    have h1 := ih (by omega) (by omega) hl
    have hlt : k < l.length := by omega
    have z1 := num_size ((k : Int) + 1) (by omega) (by omega)
    have hmm := hl k hlt
    have z2 := num_size l[k].minutes (by omega) (by omega)
    have e1 : (bs [58, 32]).size = 2 := rfl
    have e2 : (bs [32, 100, 111, 110, 101]).size = 5 := rfl
    have e3 : (bs [10]).size = 1 := rfl
    cases hd : l[k].done
    · rw [fmtTo_open hlt hd]
      simp only [ByteArray.size_append]; omega
    · rw [fmtTo_done hlt hd]
      simp only [ByteArray.size_append]; omega
def fmtC (d : DayC) (l : LogR) : ByteArray := fmtTo d.lines d.lines.length ++ textC d ++ bs [59, 32, 114, 101, 99, 111, 114, 100, 115, 32] ++ num l.n ++ bs [10]
def fmtF (d : DayC) (l : LogR) : ByteArray × Bool := if conOk d l then (fmtC d l, true) else (⟨#[]⟩, false)
theorem conOk_parts {d : DayC} {l : LogR} (h : conOk d l = true) : d.ok = true ∧ l.ok = true := by simpa [conOk] using h
theorem textC_size0 {d : DayC} (h : d.ok = true) : (textC d).size ≤ 200 := by
  obtain ⟨b1, b2, b3, b4, b5, b6, b7, b8, b9, b10, b11, b12, b13, b14⟩ := DayC.bounds h
  have z1 := num_size d.minute (by omega) (by omega)
  have z2 := num_size d.line (by omega) (by omega)
  have hd := doneTo_le d.lines d.lines.length
  have z3 := num_size (doneTo d.lines d.lines.length) (by omega) (by omega)
  have z4 := num_size d.lines.length (by omega) (by omega)
  have z5 := num_size d.fuel (by omega) (by omega)
  have zs : (stateT d).size ≤ 40 := by
    unfold stateT
    split
    · decide
    · split
      · decide
      · have : (bs [111, 110, 32, 108, 105, 110, 101, 32]).size = 8 := rfl
        simp only [ByteArray.size_append]; omega
  have e1 : (bs [32]).size = 1 := rfl
  have e2 : (bs [59, 32, 100, 111, 110, 101, 32]).size = 7 := rfl
  have e3 : (bs [47]).size = 1 := rfl
  have e4 : (bs [59, 32, 102, 117, 101, 108, 32]).size = 7 := rfl
  simp only [textC, ByteArray.size_append]
  omega
theorem textF_good {d : DayC} (h : d.ok = true) : textF d = (textC d, true) := by simp [textF, h]
set_option maxHeartbeats 4000000 in
theorem i_FormatConsole (v : DayV) (l : LogR) (w : World) (hv : v.At w) (h1 : l.d.size ≤ 2097152) (h2 : l.p.size ≤ 2097152) (hE : Env w) :
    Calls Tryz.prog 18 #[ConV.val ⟨v, l⟩] w fun e w' => e = .returned (.tuple #[.string (fmtF v.core l).1, .bool (fmtF v.core l).2]) ∧ ∃ g, w' = plus w g := by
  have HV := hid hv
  have HE := hid hE
  have HT := hid hE.tab
  clear hv hE
  cases ho : conOk v.core l
  · have HF : Hid (fmtF v.core l = (⟨#[]⟩, false)) := hid (by simp [fmtF, ho])
    have HO := hid ho
    clear ho
    go_enter Tryz.func18, Tryz.ntmps18
    go_wp2_with fail
    refine (i_IsValidConsole v l _ HO.out _ (HV.out.grew (by (repeat (first | with_reducible exact grew_refl _ | with_reducible assumption | with_reducible refine grew_split ?_ | with_reducible refine grew_mk ?_ | with_reducible refine grew_plus ?_ | with_reducible refine grew_alloc ?_ | with_reducible refine grew_drew ?_ | (with_reducible refine grew_set ?_ (by first | exact Nat.le_refl _ | omega | (simp [go_sem]; done) | (simp [go_sem]; omega))))))) h1 h2 (HE.out.grew (by (repeat (first | with_reducible exact grew_refl _ | with_reducible assumption | with_reducible refine grew_split ?_ | with_reducible refine grew_mk ?_ | with_reducible refine grew_plus ?_ | with_reducible refine grew_alloc ?_ | with_reducible refine grew_drew ?_ | (with_reducible refine grew_set ?_ (by first | exact Nat.le_refl _ | omega | (simp [go_sem]; done) | (simp [go_sem]; omega)))))))).mono ?_
    (rintro e w' ⟨rfl, gx, rfl⟩)
    go_wp2_with fail
    go_ret2
    exact ⟨ret_strb (by rw [HF.out]) (by rw [HF.out]), by (repeat (first | with_reducible exact grew_refl _ | with_reducible assumption | with_reducible refine grew_split ?_ | with_reducible refine grew_mk ?_ | with_reducible refine grew_plus ?_ | with_reducible refine grew_alloc ?_ | with_reducible refine grew_drew ?_ | (with_reducible refine grew_set ?_ (by first | exact Nat.le_refl _ | omega | (simp [go_sem]; done) | (simp [go_sem]; omega)))))⟩
  have HF : Hid (fmtF v.core l = (fmtC v.core l, true)) := hid (by simp [fmtF, ho])
  have HO := hid ho
  obtain ⟨hd, hlo⟩ := conOk_parts ho
  obtain ⟨n0, n60⟩ := LogR.count hlo
  have HD := hid hd
  have HM := hid (fun k (hk : k < v.core.lines.length) => DayC.mins hd hk)
  obtain ⟨_, _, _, _, _, b8, _⟩ := DayC.bounds hd
  have HTZ := hid (textC_size0 hd)
  clear ho hd hlo
  go_enter Tryz.func18, Tryz.ntmps18
  go_wp2_with fail
  refine (i_IsValidConsole v l _ HO.out _ (HV.out.grew (by (repeat (first | with_reducible exact grew_refl _ | with_reducible assumption | with_reducible refine grew_split ?_ | with_reducible refine grew_mk ?_ | with_reducible refine grew_plus ?_ | with_reducible refine grew_alloc ?_ | with_reducible refine grew_drew ?_ | (with_reducible refine grew_set ?_ (by first | exact Nat.le_refl _ | omega | (simp [go_sem]; done) | (simp [go_sem]; omega))))))) h1 h2 (HE.out.grew (by (repeat (first | with_reducible exact grew_refl _ | with_reducible assumption | with_reducible refine grew_split ?_ | with_reducible refine grew_mk ?_ | with_reducible refine grew_plus ?_ | with_reducible refine grew_alloc ?_ | with_reducible refine grew_drew ?_ | (with_reducible refine grew_set ?_ (by first | exact Nat.le_refl _ | omega | (simp [go_sem]; done) | (simp [go_sem]; omega)))))))).mono ?_
  (rintro e w' ⟨rfl, gx, rfl⟩)
  obtain ⟨⟨minute, state, lines, line, since, cast, fuel⟩, A, c⟩ := v
  (try simp only at b8)
  go_wp2_with fail
  go_loopw [4, 16] (fun t i wr => ∃ k : Nat, k ≤ lines.length ∧ i = .int .i64 k ∧ t = .string (fmtTo lines k) ∧ (∃ g, wr = plus (w.alloc (.cells #[.int .i64 minute, .int .i64 state, .slice A lines.length c, .int .i64 line, .int .i64 since, .int .i64 cast, .int .i64 fuel, .string l.d, .string l.p, .int .i64 l.n] 30)) g)) (fun _ i _ => lines.length - (intOf i).toNat)
  case atStart => exact ⟨0, Nat.zero_le _, rfl, rfl, by (repeat (first | with_reducible exact grew_refl _ | with_reducible assumption | with_reducible refine grew_split ?_ | with_reducible refine grew_mk ?_ | with_reducible refine grew_plus ?_ | with_reducible refine grew_alloc ?_ | with_reducible refine grew_drew ?_ | (with_reducible refine grew_set ?_ (by first | exact Nat.le_refl _ | omega | (simp [go_sem]; done) | (simp [go_sem]; omega)))))⟩
  case round =>
    obtain ⟨k, hk, rfl, rfl, g, rfl⟩ := hrel
    have hz := fmtTo_size hk (by omega) HM.out
    by_cases hlt : k < lines.length
    · obtain ⟨b, off, rfl, hb, hc⟩ := HV.out.ln.at_ hlt
      obtain ⟨hc0, hc1⟩ := lcells hc hlt
      (try simp only at hb hc0 hc1)
      obtain ⟨m1, m2⟩ := HM.out k hlt
      (try simp only at m1 m2)
      have z1 := num_size ((k : Int) + 1) (by omega) (by omega)
      have z2 := num_size lines[k].minutes (by omega) (by omega)
      have hk0 : (0 : Int) ≤ (k : Int) := by omega
      have hk1 : (k : Int) < (lines.length : Int) := by omega
      have hkw : IntKind.i64.wrap ((k : Int) + 1) = (k : Int) + 1 := IntWalk.i64_in _ (by omega)
      clear hc
      cases hdn : lines[k].done
      · have HS := hid (fmtTo_open hlt hdn)
        rw [hdn] at hc1
        clear hdn
        go_wp2_with fail
        (refine wp_region_calm (by kernel_rfl) (by kernel_rfl) ?_; (repeat' (first | go_big_quiet_step (((go_at_call 47; first | exact calm_of (i_Itoa _ _ (by omega) (by omega) (HT.out.grew (by (repeat (first | with_reducible exact grew_refl _ | with_reducible assumption | with_reducible refine grew_split ?_ | with_reducible refine grew_mk ?_ | with_reducible refine grew_plus ?_ | with_reducible refine grew_alloc ?_ | with_reducible refine grew_drew ?_ | (with_reducible refine grew_set ?_ (by first | exact Nat.le_refl _ | omega | (simp [go_sem]; done) | (simp [go_sem]; omega)))))))) | exact calm_add (i_Itoa _ _ (by omega) (by omega) (HT.out.grew (by (repeat (first | with_reducible exact grew_refl _ | with_reducible assumption | with_reducible refine grew_split ?_ | with_reducible refine grew_mk ?_ | with_reducible refine grew_plus ?_ | with_reducible refine grew_alloc ?_ | with_reducible refine grew_drew ?_ | (with_reducible refine grew_set ?_ (by first | exact Nat.le_refl _ | omega | (simp [go_sem]; done) | (simp [go_sem]; omega))))))))))) | (refine wpQuiet_step (fun K hK => ?_); go_simp; go_ite <;> go_simp <;> (first | (refine hK _ ?_; clear hK K) | (apply Exists.intro; refine ⟨fun _ => ?_, hK _ ?_⟩; (((go_at_call 47; first | exact calm_of (i_Itoa _ _ (by omega) (by omega) (HT.out.grew (by (repeat (first | with_reducible exact grew_refl _ | with_reducible assumption | with_reducible refine grew_split ?_ | with_reducible refine grew_mk ?_ | with_reducible refine grew_plus ?_ | with_reducible refine grew_alloc ?_ | with_reducible refine grew_drew ?_ | (with_reducible refine grew_set ?_ (by first | exact Nat.le_refl _ | omega | (simp [go_sem]; done) | (simp [go_sem]; omega)))))))) | exact calm_add (i_Itoa _ _ (by omega) (by omega) (HT.out.grew (by (repeat (first | with_reducible exact grew_refl _ | with_reducible assumption | with_reducible refine grew_split ?_ | with_reducible refine grew_mk ?_ | with_reducible refine grew_plus ?_ | with_reducible refine grew_alloc ?_ | with_reducible refine grew_drew ?_ | (with_reducible refine grew_set ?_ (by first | exact Nat.le_refl _ | omega | (simp [go_sem]; done) | (simp [go_sem]; omega))))))))))); clear hK K))))); all_goals (refine wpQuiet_nil ?_; intro _ hw'; obtain ⟨gq, hw''⟩ := hw'; subst hw''))
        go_wp2_with fail
        go_roundw
        case rel => exact ⟨k + 1, by omega, by go_num, by rw [HS.out]; simp [bs, ByteArray.append_assoc], by (repeat (first | with_reducible exact grew_refl _ | with_reducible assumption | with_reducible refine grew_split ?_ | with_reducible refine grew_mk ?_ | with_reducible refine grew_plus ?_ | with_reducible refine grew_alloc ?_ | with_reducible refine grew_drew ?_ | (with_reducible refine grew_set ?_ (by first | exact Nat.le_refl _ | omega | (simp [go_sem]; done) | (simp [go_sem]; omega)))))⟩
        case measure => simp [intOf]; omega
      · have HS := hid (fmtTo_done hlt hdn)
        rw [hdn] at hc1
        clear hdn
        go_wp2_with fail
        (refine wp_region_calm (by kernel_rfl) (by kernel_rfl) ?_; (repeat' (first | go_big_quiet_step (((go_at_call 47; first | exact calm_of (i_Itoa _ _ (by omega) (by omega) (HT.out.grew (by (repeat (first | with_reducible exact grew_refl _ | with_reducible assumption | with_reducible refine grew_split ?_ | with_reducible refine grew_mk ?_ | with_reducible refine grew_plus ?_ | with_reducible refine grew_alloc ?_ | with_reducible refine grew_drew ?_ | (with_reducible refine grew_set ?_ (by first | exact Nat.le_refl _ | omega | (simp [go_sem]; done) | (simp [go_sem]; omega)))))))) | exact calm_add (i_Itoa _ _ (by omega) (by omega) (HT.out.grew (by (repeat (first | with_reducible exact grew_refl _ | with_reducible assumption | with_reducible refine grew_split ?_ | with_reducible refine grew_mk ?_ | with_reducible refine grew_plus ?_ | with_reducible refine grew_alloc ?_ | with_reducible refine grew_drew ?_ | (with_reducible refine grew_set ?_ (by first | exact Nat.le_refl _ | omega | (simp [go_sem]; done) | (simp [go_sem]; omega))))))))))) | (refine wpQuiet_step (fun K hK => ?_); go_simp; go_ite <;> go_simp <;> (first | (refine hK _ ?_; clear hK K) | (apply Exists.intro; refine ⟨fun _ => ?_, hK _ ?_⟩; (((go_at_call 47; first | exact calm_of (i_Itoa _ _ (by omega) (by omega) (HT.out.grew (by (repeat (first | with_reducible exact grew_refl _ | with_reducible assumption | with_reducible refine grew_split ?_ | with_reducible refine grew_mk ?_ | with_reducible refine grew_plus ?_ | with_reducible refine grew_alloc ?_ | with_reducible refine grew_drew ?_ | (with_reducible refine grew_set ?_ (by first | exact Nat.le_refl _ | omega | (simp [go_sem]; done) | (simp [go_sem]; omega)))))))) | exact calm_add (i_Itoa _ _ (by omega) (by omega) (HT.out.grew (by (repeat (first | with_reducible exact grew_refl _ | with_reducible assumption | with_reducible refine grew_split ?_ | with_reducible refine grew_mk ?_ | with_reducible refine grew_plus ?_ | with_reducible refine grew_alloc ?_ | with_reducible refine grew_drew ?_ | (with_reducible refine grew_set ?_ (by first | exact Nat.le_refl _ | omega | (simp [go_sem]; done) | (simp [go_sem]; omega))))))))))); clear hK K))))); all_goals (refine wpQuiet_nil ?_; intro _ hw'; obtain ⟨gq, hw''⟩ := hw'; subst hw''))
        go_wp2_with fail
        go_roundw
        case rel => exact ⟨k + 1, by omega, by go_num, by rw [HS.out]; simp [bs, ByteArray.append_assoc], by (repeat (first | with_reducible exact grew_refl _ | with_reducible assumption | with_reducible refine grew_split ?_ | with_reducible refine grew_mk ?_ | with_reducible refine grew_plus ?_ | with_reducible refine grew_alloc ?_ | with_reducible refine grew_drew ?_ | (with_reducible refine grew_set ?_ (by first | exact Nat.le_refl _ | omega | (simp [go_sem]; done) | (simp [go_sem]; omega)))))⟩
        case measure => simp [intOf]; omega
    · obtain rfl : k = lines.length := by omega
      have z1 := num_size l.n (by omega) (by omega)
      have ztx := HTZ.out
      (try simp only at ztx)
      (go_wp2_with fail; refine (i_SurveyDayText _ _ (HV.out.grew (by (repeat (first | with_reducible exact grew_refl _ | with_reducible assumption | with_reducible refine grew_split ?_ | with_reducible refine grew_mk ?_ | with_reducible refine grew_plus ?_ | with_reducible refine grew_alloc ?_ | with_reducible refine grew_drew ?_ | (with_reducible refine grew_set ?_ (by first | exact Nat.le_refl _ | omega | (simp [go_sem]; done) | (simp [go_sem]; omega))))))) (HT.out.grew (by (repeat (first | with_reducible exact grew_refl _ | with_reducible assumption | with_reducible refine grew_split ?_ | with_reducible refine grew_mk ?_ | with_reducible refine grew_plus ?_ | with_reducible refine grew_alloc ?_ | with_reducible refine grew_drew ?_ | (with_reducible refine grew_set ?_ (by first | exact Nat.le_refl _ | omega | (simp [go_sem]; done) | (simp [go_sem]; omega)))))))).mono ?_; rw [textF_good HD.out]; (rintro e w' ⟨rfl, gx, rfl⟩); go_wp2_with fail; refine (i_Itoa _ _ (by omega) (by omega) (HT.out.grew (by (repeat (first | with_reducible exact grew_refl _ | with_reducible assumption | with_reducible refine grew_split ?_ | with_reducible refine grew_mk ?_ | with_reducible refine grew_plus ?_ | with_reducible refine grew_alloc ?_ | with_reducible refine grew_drew ?_ | (with_reducible refine grew_set ?_ (by first | exact Nat.le_refl _ | omega | (simp [go_sem]; done) | (simp [go_sem]; omega)))))))).mono ?_; (rintro e w' ⟨rfl, gx, rfl⟩); go_wp2_with fail; go_ret2; exact ⟨ret_strb (by rw [HF.out]; simp [fmtC, bs, ByteArray.append_assoc]) (by rw [HF.out]), by (repeat (first | with_reducible exact grew_refl _ | with_reducible assumption | with_reducible refine grew_split ?_ | with_reducible refine grew_mk ?_ | with_reducible refine grew_plus ?_ | with_reducible refine grew_alloc ?_ | with_reducible refine grew_drew ?_ | (with_reducible refine grew_set ?_ (by first | exact Nat.le_refl _ | omega | (simp [go_sem]; done) | (simp [go_sem]; omega)))))⟩)
set_option maxHeartbeats 4000000 in
theorem s_FormatConsole (v : DayV) (l : LogR) (w : World) (hv : v.At w) (h1 : l.d.size ≤ 2097152) (h2 : l.p.size ≤ 2097152) (hE : Env w) :
    Calls Tryz.prog 19 #[ConV.val ⟨v, l⟩] w fun e w' => e = .returned (.tuple #[.string (fmtF v.core l).1, .bool (fmtF v.core l).2]) ∧ ∃ g, w' = plus w g := by
  have HV := hid hv
  have HE := hid hE
  have HT := hid hE.tab
  clear hv hE
  cases ho : conOk v.core l
  · have HF : Hid (fmtF v.core l = (⟨#[]⟩, false)) := hid (by simp [fmtF, ho])
    have HO := hid ho
    clear ho
    go_enter Tryz.func19, Tryz.ntmps19
    go_wp2_with fail
    refine (s_l28Good v l _ HO.out _ (HV.out.grew (by (repeat (first | with_reducible exact grew_refl _ | with_reducible assumption | with_reducible refine grew_split ?_ | with_reducible refine grew_mk ?_ | with_reducible refine grew_plus ?_ | with_reducible refine grew_alloc ?_ | with_reducible refine grew_drew ?_ | (with_reducible refine grew_set ?_ (by first | exact Nat.le_refl _ | omega | (simp [go_sem]; done) | (simp [go_sem]; omega))))))) h1 h2 (HE.out.grew (by (repeat (first | with_reducible exact grew_refl _ | with_reducible assumption | with_reducible refine grew_split ?_ | with_reducible refine grew_mk ?_ | with_reducible refine grew_plus ?_ | with_reducible refine grew_alloc ?_ | with_reducible refine grew_drew ?_ | (with_reducible refine grew_set ?_ (by first | exact Nat.le_refl _ | omega | (simp [go_sem]; done) | (simp [go_sem]; omega)))))))).mono ?_
    (rintro e w' ⟨rfl, gx, rfl⟩)
    go_wp2_with fail
    go_ret2
    exact ⟨ret_strb (by rw [HF.out]) (by rw [HF.out]), by (repeat (first | with_reducible exact grew_refl _ | with_reducible assumption | with_reducible refine grew_split ?_ | with_reducible refine grew_mk ?_ | with_reducible refine grew_plus ?_ | with_reducible refine grew_alloc ?_ | with_reducible refine grew_drew ?_ | (with_reducible refine grew_set ?_ (by first | exact Nat.le_refl _ | omega | (simp [go_sem]; done) | (simp [go_sem]; omega)))))⟩
  have HF : Hid (fmtF v.core l = (fmtC v.core l, true)) := hid (by simp [fmtF, ho])
  have HO := hid ho
  obtain ⟨hd, hlo⟩ := conOk_parts ho
  obtain ⟨n0, n60⟩ := LogR.count hlo
  have HD := hid hd
  have HM := hid (fun k (hk : k < v.core.lines.length) => DayC.mins hd hk)
  obtain ⟨_, _, _, _, _, b8, _⟩ := DayC.bounds hd
  have HTZ := hid (textC_size0 hd)
  clear ho hd hlo
  go_enter Tryz.func19, Tryz.ntmps19
  go_wp2_with fail
  refine (s_l28Good v l _ HO.out _ (HV.out.grew (by (repeat (first | with_reducible exact grew_refl _ | with_reducible assumption | with_reducible refine grew_split ?_ | with_reducible refine grew_mk ?_ | with_reducible refine grew_plus ?_ | with_reducible refine grew_alloc ?_ | with_reducible refine grew_drew ?_ | (with_reducible refine grew_set ?_ (by first | exact Nat.le_refl _ | omega | (simp [go_sem]; done) | (simp [go_sem]; omega))))))) h1 h2 (HE.out.grew (by (repeat (first | with_reducible exact grew_refl _ | with_reducible assumption | with_reducible refine grew_split ?_ | with_reducible refine grew_mk ?_ | with_reducible refine grew_plus ?_ | with_reducible refine grew_alloc ?_ | with_reducible refine grew_drew ?_ | (with_reducible refine grew_set ?_ (by first | exact Nat.le_refl _ | omega | (simp [go_sem]; done) | (simp [go_sem]; omega)))))))).mono ?_
  (rintro e w' ⟨rfl, gx, rfl⟩)
  obtain ⟨⟨minute, state, lines, line, since, cast, fuel⟩, A, c⟩ := v
  (try simp only at b8)
  go_wp2_with fail
  go_loopw [4, 5] (fun t i wr => ∃ k : Nat, k ≤ lines.length ∧ i = .int .i64 k ∧ t = .string (fmtTo lines k) ∧ (∃ g, wr = plus (w.alloc (.cells #[.int .i64 minute, .int .i64 state, .slice A lines.length c, .int .i64 line, .int .i64 since, .int .i64 cast, .int .i64 fuel, .string l.d, .string l.p, .int .i64 l.n] 30)) g)) (fun _ i _ => lines.length - (intOf i).toNat)
  case atStart => exact ⟨0, Nat.zero_le _, rfl, rfl, by (repeat (first | with_reducible exact grew_refl _ | with_reducible assumption | with_reducible refine grew_split ?_ | with_reducible refine grew_mk ?_ | with_reducible refine grew_plus ?_ | with_reducible refine grew_alloc ?_ | with_reducible refine grew_drew ?_ | (with_reducible refine grew_set ?_ (by first | exact Nat.le_refl _ | omega | (simp [go_sem]; done) | (simp [go_sem]; omega)))))⟩
  case round =>
    obtain ⟨k, hk, rfl, rfl, g, rfl⟩ := hrel
    have hz := fmtTo_size hk (by omega) HM.out
    by_cases hlt : k < lines.length
    · obtain ⟨b, off, rfl, hb, hc⟩ := HV.out.ln.at_ hlt
      obtain ⟨hc0, hc1⟩ := lcells hc hlt
      (try simp only at hb hc0 hc1)
      obtain ⟨m1, m2⟩ := HM.out k hlt
      (try simp only at m1 m2)
      have z1 := num_size ((k : Int) + 1) (by omega) (by omega)
      have z2 := num_size lines[k].minutes (by omega) (by omega)
      have hk0 : (0 : Int) ≤ (k : Int) := by omega
      have hk1 : (k : Int) < (lines.length : Int) := by omega
      have hkw : IntKind.i64.wrap ((k : Int) + 1) = (k : Int) + 1 := IntWalk.i64_in _ (by omega)
      clear hc
      cases hdn : lines[k].done
      · have HS := hid (fmtTo_open hlt hdn)
        rw [hdn] at hc1
        clear hdn
        go_wp2_with fail
        (refine wp_region_calm (by kernel_rfl) (by kernel_rfl) ?_; (repeat' (first | go_big_quiet_step (((go_at_call 49; first | exact calm_of (s_l1Num _ _ (by omega) (by omega)) | exact calm_add (s_l1Num _ _ (by omega) (by omega))))) | (refine wpQuiet_step (fun K hK => ?_); go_simp; go_ite <;> go_simp <;> (first | (refine hK _ ?_; clear hK K) | (apply Exists.intro; refine ⟨fun _ => ?_, hK _ ?_⟩; (((go_at_call 49; first | exact calm_of (s_l1Num _ _ (by omega) (by omega)) | exact calm_add (s_l1Num _ _ (by omega) (by omega))))); clear hK K))))); all_goals (refine wpQuiet_nil ?_; intro _ hw'; obtain ⟨gq, hw''⟩ := hw'; subst hw''))
        go_wp2_with fail
        go_roundw
        case rel => exact ⟨k + 1, by omega, by go_num, by rw [HS.out]; simp [bs, ByteArray.append_assoc], by (repeat (first | with_reducible exact grew_refl _ | with_reducible assumption | with_reducible refine grew_split ?_ | with_reducible refine grew_mk ?_ | with_reducible refine grew_plus ?_ | with_reducible refine grew_alloc ?_ | with_reducible refine grew_drew ?_ | (with_reducible refine grew_set ?_ (by first | exact Nat.le_refl _ | omega | (simp [go_sem]; done) | (simp [go_sem]; omega)))))⟩
        case measure => simp [intOf]; omega
      · have HS := hid (fmtTo_done hlt hdn)
        rw [hdn] at hc1
        clear hdn
        go_wp2_with fail
        (refine wp_region_calm (by kernel_rfl) (by kernel_rfl) ?_; (repeat' (first | go_big_quiet_step (((go_at_call 49; first | exact calm_of (s_l1Num _ _ (by omega) (by omega)) | exact calm_add (s_l1Num _ _ (by omega) (by omega))))) | (refine wpQuiet_step (fun K hK => ?_); go_simp; go_ite <;> go_simp <;> (first | (refine hK _ ?_; clear hK K) | (apply Exists.intro; refine ⟨fun _ => ?_, hK _ ?_⟩; (((go_at_call 49; first | exact calm_of (s_l1Num _ _ (by omega) (by omega)) | exact calm_add (s_l1Num _ _ (by omega) (by omega))))); clear hK K))))); all_goals (refine wpQuiet_nil ?_; intro _ hw'; obtain ⟨gq, hw''⟩ := hw'; subst hw''))
        go_wp2_with fail
        go_roundw
        case rel => exact ⟨k + 1, by omega, by go_num, by rw [HS.out]; simp [bs, ByteArray.append_assoc], by (repeat (first | with_reducible exact grew_refl _ | with_reducible assumption | with_reducible refine grew_split ?_ | with_reducible refine grew_mk ?_ | with_reducible refine grew_plus ?_ | with_reducible refine grew_alloc ?_ | with_reducible refine grew_drew ?_ | (with_reducible refine grew_set ?_ (by first | exact Nat.le_refl _ | omega | (simp [go_sem]; done) | (simp [go_sem]; omega)))))⟩
        case measure => simp [intOf]; omega
    · obtain rfl : k = lines.length := by omega
      have z1 := num_size l.n (by omega) (by omega)
      have ztx := HTZ.out
      (try simp only at ztx)
      (go_wp2_with fail; (refine wp_region_calm (by kernel_rfl) (by kernel_rfl) ?_; (repeat' (first | go_big_quiet_step ((first | (go_at_call 49; first | exact calm_of (s_l1Num _ _ (by omega) (by omega)) | exact calm_add (s_l1Num _ _ (by omega) (by omega))) | (go_at_call 50; first | exact calm_of (s_l25Text ⟨⟨minute, state, lines, line, since, cast, fuel⟩, A, c⟩ _ (HV.out.grew (by (repeat (first | with_reducible exact grew_refl _ | with_reducible assumption | with_reducible refine grew_split ?_ | with_reducible refine grew_mk ?_ | with_reducible refine grew_plus ?_ | with_reducible refine grew_alloc ?_ | with_reducible refine grew_drew ?_ | (with_reducible refine grew_set ?_ (by first | exact Nat.le_refl _ | omega | (simp [go_sem]; done) | (simp [go_sem]; omega))))))) HD.out) | exact calm_add (s_l25Text ⟨⟨minute, state, lines, line, since, cast, fuel⟩, A, c⟩ _ (HV.out.grew (by (repeat (first | with_reducible exact grew_refl _ | with_reducible assumption | with_reducible refine grew_split ?_ | with_reducible refine grew_mk ?_ | with_reducible refine grew_plus ?_ | with_reducible refine grew_alloc ?_ | with_reducible refine grew_drew ?_ | (with_reducible refine grew_set ?_ (by first | exact Nat.le_refl _ | omega | (simp [go_sem]; done) | (simp [go_sem]; omega))))))) HD.out)))) | (refine wpQuiet_step (fun K hK => ?_); go_simp; go_ite <;> go_simp <;> (first | (refine hK _ ?_; clear hK K) | (apply Exists.intro; refine ⟨fun _ => ?_, hK _ ?_⟩; ((first | (go_at_call 49; first | exact calm_of (s_l1Num _ _ (by omega) (by omega)) | exact calm_add (s_l1Num _ _ (by omega) (by omega))) | (go_at_call 50; first | exact calm_of (s_l25Text ⟨⟨minute, state, lines, line, since, cast, fuel⟩, A, c⟩ _ (HV.out.grew (by (repeat (first | with_reducible exact grew_refl _ | with_reducible assumption | with_reducible refine grew_split ?_ | with_reducible refine grew_mk ?_ | with_reducible refine grew_plus ?_ | with_reducible refine grew_alloc ?_ | with_reducible refine grew_drew ?_ | (with_reducible refine grew_set ?_ (by first | exact Nat.le_refl _ | omega | (simp [go_sem]; done) | (simp [go_sem]; omega))))))) HD.out) | exact calm_add (s_l25Text ⟨⟨minute, state, lines, line, since, cast, fuel⟩, A, c⟩ _ (HV.out.grew (by (repeat (first | with_reducible exact grew_refl _ | with_reducible assumption | with_reducible refine grew_split ?_ | with_reducible refine grew_mk ?_ | with_reducible refine grew_plus ?_ | with_reducible refine grew_alloc ?_ | with_reducible refine grew_drew ?_ | (with_reducible refine grew_set ?_ (by first | exact Nat.le_refl _ | omega | (simp [go_sem]; done) | (simp [go_sem]; omega))))))) HD.out)))); clear hK K))))); all_goals (refine wpQuiet_nil ?_; intro _ hw'; obtain ⟨gq, hw''⟩ := hw'; subst hw'')); go_wp2_with fail; go_ret2; exact ⟨ret_strb (by rw [HF.out]; simp [fmtC, bs, ByteArray.append_assoc]) (by rw [HF.out]), by (repeat (first | with_reducible exact grew_refl _ | with_reducible assumption | with_reducible refine grew_split ?_ | with_reducible refine grew_mk ?_ | with_reducible refine grew_plus ?_ | with_reducible refine grew_alloc ?_ | with_reducible refine grew_drew ?_ | (with_reducible refine grew_set ?_ (by first | exact Nat.le_refl _ | omega | (simp [go_sem]; done) | (simp [go_sem]; omega)))))⟩)
end Go.Proofs.YtecghfcgahgfiaaGreatDoor
