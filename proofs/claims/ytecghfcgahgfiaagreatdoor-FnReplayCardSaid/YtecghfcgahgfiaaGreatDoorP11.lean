import Derived.Test.YtecghfcgahgfiaaGreatDoorP10
import Derived.Test.YtecghfcgahgfiaaGreatDoorProg
import Derived.Test.YtecghfcgahgfiaaGreatDoorP1
/- The laws' conversions of days: sizes, copies, comparison of equal ones. -/
namespace Go.Proofs.YtecghfcgahgfiaaGreatDoor
open Go.RowKit

end Go.Proofs.YtecghfcgahgfiaaGreatDoor
/- Fractions in lowest terms, least and greatest, in both packages: what they return, for numbers that are not negative. -/
namespace Go.Proofs.YtecghfcgahgfiaaGreatDoor
open Go.RowKit

set_option maxHeartbeats 400000 in
theorem s_l1Least (a b : Int) (w : World) : Calls Tryz.prog 121 #[.int .i64 a, .int .i64 b] w fun e w' => e = .returned (.int .i64 (min a b)) ∧ w = w' := by
  go_enter Tryz.func121, Tryz.ntmps121
  go_wp2
  all_goals
    go_ret
    exact ⟨ret_int (by grind), rfl⟩
set_option maxHeartbeats 400000 in
theorem s_l1Most (a b : Int) (w : World) : Calls Tryz.prog 64 #[.int .i64 a, .int .i64 b] w fun e w' => e = .returned (.int .i64 (max a b)) ∧ w = w' := by
  go_enter Tryz.func64, Tryz.ntmps64
  go_wp2
  all_goals
    go_ret
    exact ⟨ret_int (by grind), rfl⟩
theorem gcd_pos {a b : Nat} (h : 0 < b) : (1 : Int) ≤ (Nat.gcd a b : Int) := by have := Nat.gcd_pos_of_pos_right a h; omega
theorem tuple2 {a b c d : Int} (h : a = b) (h' : c = d) : Ending.returned (.tuple #[.int .i64 a, .int .i64 c]) = .returned (.tuple #[.int .i64 b, .int .i64 d]) := by rw [h, h']
theorem wrap_div {a d g : Nat} (h : a ≤ 9223372036854775807) (hd : d = g) : wrap64 ((a : Int) / (d : Int)) = ((a / g : Nat) : Int) := by
  subst hd
  rw [← Int.natCast_ediv]
  have := Nat.div_le_self a d
  generalize a / d = q at this ⊢
  unfold wrap64
  omega
end Go.Proofs.YtecghfcgahgfiaaGreatDoor
/- Whether the cast is good, and the minutes that are left, in both packages. -/
namespace Go.Proofs.YtecghfcgahgfiaaGreatDoor
open Go.RowKit

theorem ret_bb {a b c d : Bool} (h : a = b) (h' : c = d) : Ending.returned (.tuple #[.bool a, .bool c]) = .returned (.tuple #[.bool b, .bool d]) := by rw [h, h']
theorem ret_ib {a b : Int} {c d : Bool} (h : a = b) (h' : c = d) : Ending.returned (.tuple #[.int .i64 a, .bool c]) = .returned (.tuple #[.int .i64 b, .bool d]) := by rw [h, h']
theorem DayC.bounds {v : DayC} (h : v.ok = true) : 0 ≤ v.minute ∧ v.minute ≤ 1440 ∧ 0 ≤ v.state ∧ v.state ≤ 2 ∧ 1 ≤ v.lines.length ∧ v.lines.length ≤ 8 ∧ -1 ≤ v.cast ∧ v.cast ≤ v.minute ∧ 0 ≤ v.fuel ∧ v.fuel ≤ 9999 ∧ 0 ≤ v.since ∧ v.since ≤ v.minute ∧ 0 ≤ v.line ∧ v.line ≤ v.lines.length := by
  simp only [DayC.ok, DayC.pre, DayC.post, inB, Bool.and_eq_true, decide_eq_true_eq] at h
  obtain ⟨⟨h1, _⟩, h2⟩ := h
  split at h2 <;> simp only [Bool.and_eq_true, decide_eq_true_eq, beq_iff_eq] at h2 <;> omega
theorem DayC.mins {v : DayC} (h : v.ok = true) {k : Nat} (hk : k < v.lines.length) : 1 ≤ v.lines[k].minutes ∧ v.lines[k].minutes ≤ 300 := by
  simp only [DayC.ok, Bool.and_eq_true] at h
  have := allUpto_iff.1 h.1.2 k hk
  simp only [lnStep, hk, ↓reduceDIte, inB, Bool.and_eq_true, decide_eq_true_eq] at this
  omega
def castB (v : DayC) : Bool := decide (0 ≤ v.cast) && decide (v.minute - v.cast ≤ 240)
def castF (v : DayC) : Bool × Bool := if v.ok then (castB v, true) else (false, false)
set_option maxHeartbeats 400000 in
theorem s_l25Cast (v : DayV) (o : Bool) (ho : castB v.core = o) (w : World) (hk : v.core.ok = true) :
    Calls Tryz.prog 103 #[v.val] w fun e w' => e = .returned (.bool o) ∧ ∃ g, w' = plus w g := by
  subst ho
  obtain ⟨⟨minute, state, lines, line, since, cast, fuel⟩, A, c⟩ := v
  obtain ⟨b1, b2, b3, b4, b5, b6, b7, b8, b9⟩ := DayC.bounds hk
  simp only at b1 b2 b3 b4 b5 b6 b7 b8
  clear b9 hk
  go_enter Tryz.func103, Tryz.ntmps103
  go_wp2
  all_goals
    go_ret
    exact ⟨ret_bool (by simp only [castB]; grind), by (repeat (first | with_reducible exact grew_refl _ | with_reducible assumption | with_reducible refine grew_split ?_ | with_reducible refine grew_mk ?_ | with_reducible refine grew_plus ?_ | with_reducible refine grew_alloc ?_ | with_reducible refine grew_drew ?_ | (with_reducible refine grew_set ?_ (by first | exact Nat.le_refl _ | omega | (simp [go_sem]; done) | (simp [go_sem]; omega)))))⟩
set_option maxHeartbeats 400000 in
theorem i_castIsGood (v : DayV) (o : Bool) (ho : castB v.core = o) (w : World) (hk : v.core.ok = true) :
    Calls Tryz.prog 94 #[v.val] w fun e w' => e = .returned (.bool o) ∧ ∃ g, w' = plus w g := by
  subst ho
  obtain ⟨⟨minute, state, lines, line, since, cast, fuel⟩, A, c⟩ := v
  obtain ⟨b1, b2, b3, b4, b5, b6, b7, b8, b9⟩ := DayC.bounds hk
  simp only at b1 b2 b3 b4 b5 b6 b7 b8
  clear b9 hk
  go_enter Tryz.func94, Tryz.ntmps94
  go_wp2
  all_goals
    go_ret
    exact ⟨ret_bool (by simp only [castB]; grind), by (repeat (first | with_reducible exact grew_refl _ | with_reducible assumption | with_reducible refine grew_split ?_ | with_reducible refine grew_mk ?_ | with_reducible refine grew_plus ?_ | with_reducible refine grew_alloc ?_ | with_reducible refine grew_drew ?_ | (with_reducible refine grew_set ?_ (by first | exact Nat.le_refl _ | omega | (simp [go_sem]; done) | (simp [go_sem]; omega)))))⟩

/-- What is left to do of line k. -/
def leftAt (v : DayC) (k : Nat) : Int :=
  if h : k < v.lines.length then (if v.lines[k].done then 0 else if (k : Int) + 1 = v.line then v.lines[k].minutes - min (v.minute - v.since) v.lines[k].minutes else v.lines[k].minutes) else 0
def leftTo (v : DayC) : Nat → Int
  | 0 => 0
  | k + 1 => leftTo v k + leftAt v k
theorem leftTo_bound {v : DayC} (h : v.ok = true) : ∀ k, k ≤ v.lines.length → 0 ≤ leftTo v k ∧ leftTo v k ≤ 300 * k := by
  intro k
  induction k with
  | zero => intro _; simp [leftTo]
  | succ k ih =>
    intro hk
    have h0 := ih (by omega)
    have hm := DayC.mins h (show k < v.lines.length by omega)
    obtain ⟨b1, b2, b3, b4, b5, b6, b7, b8, b9, b10, b11, b12, _⟩ := DayC.bounds h
    have hlt : k < v.lines.length := by omega
    simp only [leftTo, leftAt, hlt, ↓reduceDIte]
    split
    · omega
    · split <;> omega
def leftF (v : DayC) : Int × Bool := if v.ok then (leftTo v v.lines.length, true) else (0, false)
set_option maxHeartbeats 2000000 in
theorem i_SurveyMinutesLeft (v : DayV) (w : World) (hv : v.At w) :
    Calls Tryz.prog 93 #[v.val] w fun e w' => e = .returned (.tuple #[.int .i64 (leftF v.core).1, .bool (leftF v.core).2]) ∧ ∃ g, w' = plus w g := by
  have HV := hid hv
  cases ho : v.core.ok
  · have HF : Hid (leftF v.core = (0, false)) := hid (by simp [leftF, ho])
    clear hv
    go_enter Tryz.func93, Tryz.ntmps93
    go_wp2_with (go_at_call 42; refine (i_IsSurveyDay v _ ho _ (HV.out.alloc _)).mono ?_; (rintro e w' ⟨rfl, gx, rfl⟩))
    go_ret2
    exact ⟨ret_ib (by rw [HF.out]) (by rw [HF.out]), by (repeat (first | with_reducible exact grew_refl _ | with_reducible assumption | with_reducible refine grew_split ?_ | with_reducible refine grew_mk ?_ | with_reducible refine grew_plus ?_ | with_reducible refine grew_alloc ?_ | with_reducible refine grew_drew ?_ | (with_reducible refine grew_set ?_ (by first | exact Nat.le_refl _ | omega | (simp [go_sem]; done) | (simp [go_sem]; omega)))))⟩
  · have HF : Hid (leftF v.core = (leftTo v.core v.core.lines.length, true)) := hid (by simp [leftF, ho])
    have HO := hid ho
    clear hv
    go_enter Tryz.func93, Tryz.ntmps93
    go_wp2_with (go_at_call 42; refine (i_IsSurveyDay v _ ho _ (HV.out.alloc _)).mono ?_; (rintro e w' ⟨rfl, gx, rfl⟩))
    have hp := HV.out.ln
    have hb := DayC.bounds ho
    obtain ⟨⟨minute, state, lines, line, since, cast, fuel⟩, A, c⟩ := v
    simp only at hp hb HO HF ⊢
    obtain ⟨b1, b2, b3, b4, b5, b6, b7, b8, b9, b10, b11, b12, b13, b14⟩ := hb
    clear ho
    go_loopw [4, 13, 6] (fun a i _ wr => ∃ k : Nat, k ≤ lines.length ∧ i = .int .i64 k ∧ a = .int .i64 (leftTo ⟨minute, state, lines, line, since, cast, fuel⟩ k) ∧ (∃ g, wr = plus (w.alloc (.cells #[.int .i64 minute, .int .i64 state, .slice A lines.length c, .int .i64 line, .int .i64 since, .int .i64 cast, .int .i64 fuel] 26)) g)) (fun _ i _ _ => lines.length - (intOf i).toNat)
    case atStart => exact ⟨0, Nat.zero_le _, rfl, rfl, by (repeat (first | with_reducible exact grew_refl _ | with_reducible assumption | with_reducible refine grew_split ?_ | with_reducible refine grew_mk ?_ | with_reducible refine grew_plus ?_ | with_reducible refine grew_alloc ?_ | with_reducible refine grew_drew ?_ | (with_reducible refine grew_set ?_ (by first | exact Nat.le_refl _ | omega | (simp [go_sem]; done) | (simp [go_sem]; omega)))))⟩
    case round =>
      obtain ⟨k, hk, rfl, rfl, g, rfl⟩ := hrel
      obtain ⟨l0, l1⟩ := leftTo_bound HO.out k hk
      by_cases hlt : k < lines.length
      · obtain ⟨b, off, rfl, hb, hc⟩ := hp.at_ hlt
        obtain ⟨hc0, hc1⟩ := lcells hc hlt
        obtain ⟨m0, m1⟩ := DayC.mins HO.out hlt
        have HA : Hid (leftTo ⟨minute, state, lines, line, since, cast, fuel⟩ (k + 1) = leftTo ⟨minute, state, lines, line, since, cast, fuel⟩ k + if lines[k].done then 0 else if (k : Int) + 1 = line then lines[k].minutes - min (minute - since) lines[k].minutes else lines[k].minutes) := hid (by simp [leftTo, leftAt, hlt])
        simp only at m0 m1
        clear hc hp
        go_wp2
        all_goals
          go_roundw
          case rel => exact ⟨k + 1, by omega, by go_num, vint (by rw [HA.out]; grind), by (repeat (first | with_reducible exact grew_refl _ | with_reducible assumption | with_reducible refine grew_split ?_ | with_reducible refine grew_mk ?_ | with_reducible refine grew_plus ?_ | with_reducible refine grew_alloc ?_ | with_reducible refine grew_drew ?_ | (with_reducible refine grew_set ?_ (by first | exact Nat.le_refl _ | omega | (simp [go_sem]; done) | (simp [go_sem]; omega)))))⟩
          case measure => simp [intOf]; omega
      · obtain rfl : k = lines.length := by omega
        clear hp
        go_wp2
        go_ret2
        exact ⟨ret_ib (by rw [HF.out]) (by rw [HF.out]), by (repeat (first | with_reducible exact grew_refl _ | with_reducible assumption | with_reducible refine grew_split ?_ | with_reducible refine grew_mk ?_ | with_reducible refine grew_plus ?_ | with_reducible refine grew_alloc ?_ | with_reducible refine grew_drew ?_ | (with_reducible refine grew_set ?_ (by first | exact Nat.le_refl _ | omega | (simp [go_sem]; done) | (simp [go_sem]; omega)))))⟩
set_option maxHeartbeats 2000000 in
theorem s_SurveyMinutesLeft (v : DayV) (w : World) (hv : v.At w) :
    Calls Tryz.prog 102 #[v.val] w fun e w' => e = .returned (.tuple #[.int .i64 (leftF v.core).1, .bool (leftF v.core).2]) ∧ ∃ g, w' = plus w g := by
  have HV := hid hv
  cases ho : v.core.ok
  · have HF : Hid (leftF v.core = (0, false)) := hid (by simp [leftF, ho])
    clear hv
    go_enter Tryz.func102, Tryz.ntmps102
    go_wp2_with (go_at_call 75; refine (s_l25Good v _ ho _ (HV.out.alloc _)).mono ?_; (rintro e w' ⟨rfl, gx, rfl⟩))
    go_ret2
    exact ⟨ret_ib (by rw [HF.out]) (by rw [HF.out]), by (repeat (first | with_reducible exact grew_refl _ | with_reducible assumption | with_reducible refine grew_split ?_ | with_reducible refine grew_mk ?_ | with_reducible refine grew_plus ?_ | with_reducible refine grew_alloc ?_ | with_reducible refine grew_drew ?_ | (with_reducible refine grew_set ?_ (by first | exact Nat.le_refl _ | omega | (simp [go_sem]; done) | (simp [go_sem]; omega)))))⟩
  · have HF : Hid (leftF v.core = (leftTo v.core v.core.lines.length, true)) := hid (by simp [leftF, ho])
    have HO := hid ho
    clear hv
    go_enter Tryz.func102, Tryz.ntmps102
    go_wp2_with (go_at_call 75; refine (s_l25Good v _ ho _ (HV.out.alloc _)).mono ?_; (rintro e w' ⟨rfl, gx, rfl⟩))
    have hp := HV.out.ln
    have hb := DayC.bounds ho
    obtain ⟨⟨minute, state, lines, line, since, cast, fuel⟩, A, c⟩ := v
    simp only at hp hb HO HF ⊢
    obtain ⟨b1, b2, b3, b4, b5, b6, b7, b8, b9, b10, b11, b12, b13, b14⟩ := hb
    clear ho
    go_loopw [4, 5] (fun a i wr => ∃ k : Nat, k ≤ lines.length ∧ i = .int .i64 k ∧ a = .int .i64 (leftTo ⟨minute, state, lines, line, since, cast, fuel⟩ k) ∧ (∃ g, wr = plus (w.alloc (.cells #[.int .i64 minute, .int .i64 state, .slice A lines.length c, .int .i64 line, .int .i64 since, .int .i64 cast, .int .i64 fuel] 26)) g)) (fun _ i _ => lines.length - (intOf i).toNat)
    case atStart => exact ⟨0, Nat.zero_le _, rfl, rfl, by (repeat (first | with_reducible exact grew_refl _ | with_reducible assumption | with_reducible refine grew_split ?_ | with_reducible refine grew_mk ?_ | with_reducible refine grew_plus ?_ | with_reducible refine grew_alloc ?_ | with_reducible refine grew_drew ?_ | (with_reducible refine grew_set ?_ (by first | exact Nat.le_refl _ | omega | (simp [go_sem]; done) | (simp [go_sem]; omega)))))⟩
    case round =>
      obtain ⟨k, hk, rfl, rfl, g, rfl⟩ := hrel
      obtain ⟨l0, l1⟩ := leftTo_bound HO.out k hk
      by_cases hlt : k < lines.length
      · obtain ⟨b, off, rfl, hb, hc⟩ := hp.at_ hlt
        obtain ⟨hc0, hc1⟩ := lcells hc hlt
        obtain ⟨m0, m1⟩ := DayC.mins HO.out hlt
        have HA : Hid (leftTo ⟨minute, state, lines, line, since, cast, fuel⟩ (k + 1) = leftTo ⟨minute, state, lines, line, since, cast, fuel⟩ k + if lines[k].done then 0 else if (k : Int) + 1 = line then lines[k].minutes - min (minute - since) lines[k].minutes else lines[k].minutes) := hid (by simp [leftTo, leftAt, hlt])
        simp only at m0 m1
        clear hc hp
        cases hd : lines[k].done
        · by_cases hl : (k : Int) + 1 = line
          · have hl' : (line == (k : Int) + 1) = true := by rw [hl]; simp
            have HL := hid hl
            clear hl
            go_wp2_with fail
            (refine wp_region_calm (by kernel_rfl) (by kernel_rfl) ?_; (repeat' (first | go_big_quiet_step ((go_at_call 121; first | exact calm_same (s_l1Least _ _ _) | exact calm_add_same (s_l1Least _ _ _))) | (refine wpQuiet_step (fun K hK => ?_); go_simp; go_ite <;> go_simp <;> (first | (refine hK _ ?_; clear hK K) | (apply Exists.intro; refine ⟨fun _ => ?_, hK _ ?_⟩; ((go_at_call 121; first | exact calm_same (s_l1Least _ _ _) | exact calm_add_same (s_l1Least _ _ _))); clear hK K))))); all_goals (refine wpQuiet_nil ?_; intro _ hw'; obtain ⟨gq, hw''⟩ := hw'; subst hw''))
            go_wp2
            go_roundw
            case rel => exact ⟨k + 1, by omega, by go_num, vint (by rw [HA.out]; have := HL.out; grind), by (repeat (first | with_reducible exact grew_refl _ | with_reducible assumption | with_reducible refine grew_split ?_ | with_reducible refine grew_mk ?_ | with_reducible refine grew_plus ?_ | with_reducible refine grew_alloc ?_ | with_reducible refine grew_drew ?_ | (with_reducible refine grew_set ?_ (by first | exact Nat.le_refl _ | omega | (simp [go_sem]; done) | (simp [go_sem]; omega)))))⟩
            case measure => simp [intOf]; omega
          · have hl' : (line == (k : Int) + 1) = false := by rw [beq_eq_false_iff_ne]; omega
            have HL := hid hl
            clear hl
            go_wp2
            go_roundw
            case rel => exact ⟨k + 1, by omega, by go_num, vint (by rw [HA.out]; have := HL.out; grind), by (repeat (first | with_reducible exact grew_refl _ | with_reducible assumption | with_reducible refine grew_split ?_ | with_reducible refine grew_mk ?_ | with_reducible refine grew_plus ?_ | with_reducible refine grew_alloc ?_ | with_reducible refine grew_drew ?_ | (with_reducible refine grew_set ?_ (by first | exact Nat.le_refl _ | omega | (simp [go_sem]; done) | (simp [go_sem]; omega)))))⟩
            case measure => simp [intOf]; omega
        · go_wp2
          go_roundw
          case rel => exact ⟨k + 1, by omega, by go_num, vint (by rw [HA.out]; grind), by (repeat (first | with_reducible exact grew_refl _ | with_reducible assumption | with_reducible refine grew_split ?_ | with_reducible refine grew_mk ?_ | with_reducible refine grew_plus ?_ | with_reducible refine grew_alloc ?_ | with_reducible refine grew_drew ?_ | (with_reducible refine grew_set ?_ (by first | exact Nat.le_refl _ | omega | (simp [go_sem]; done) | (simp [go_sem]; omega)))))⟩
          case measure => simp [intOf]; omega
      · obtain rfl : k = lines.length := by omega
        clear hp
        go_wp2
        go_ret2
        exact ⟨ret_ib (by rw [HF.out]) (by rw [HF.out]), by (repeat (first | with_reducible exact grew_refl _ | with_reducible assumption | with_reducible refine grew_split ?_ | with_reducible refine grew_mk ?_ | with_reducible refine grew_plus ?_ | with_reducible refine grew_alloc ?_ | with_reducible refine grew_drew ?_ | (with_reducible refine grew_set ?_ (by first | exact Nat.le_refl _ | omega | (simp [go_sem]; done) | (simp [go_sem]; omega)))))⟩
end Go.Proofs.YtecghfcgahgfiaaGreatDoor
