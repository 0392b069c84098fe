/- Whether the cast is good, and the minutes that are left, in both packages. -/
import Derived.Test.YtcljcbbkbepmjaaDoorD2
import Derived.Test.YtcljcbbkbepmjaaDoorL2
namespace Go.Proofs.YtcljcbbkbepmjaaDoor
open Go.RowKit

theorem ret_bb {a b c d : Bool} (h : a = b) (h' : c = d) : Ending.returned (.tuple #[.bool a, .bool c]) = .returned (.tuple #[.bool b, .bool d]) := by rw [h, h']
theorem ret_ib {a b : Int} {c d : Bool} (h : a = b) (h' : c = d) : Ending.returned (.tuple #[.int .i64 a, .bool c]) = .returned (.tuple #[.int .i64 b, .bool d]) := by rw [h, h']
theorem DayC.bounds {v : DayC} (h : v.ok = true) : 0 ≤ v.minute ∧ v.minute ≤ 1440 ∧ 0 ≤ v.state ∧ v.state ≤ 2 ∧ 1 ≤ v.lines.length ∧ v.lines.length ≤ 8 ∧ -1 ≤ v.cast ∧ v.cast ≤ v.minute ∧ 0 ≤ v.fuel ∧ v.fuel ≤ 9999 ∧ 0 ≤ v.since ∧ v.since ≤ v.minute ∧ 0 ≤ v.line ∧ v.line ≤ v.lines.length := by
  simp only [DayC.ok, DayC.pre, DayC.post, inB, Bool.and_eq_true, decide_eq_true_eq] at h
  obtain ⟨⟨h1, _⟩, h2⟩ := h
  split at h2 <;> simp only [Bool.and_eq_true, decide_eq_true_eq, beq_iff_eq] at h2 <;> omega
theorem DayC.mins {v : DayC} (h : v.ok = true) {k : Nat} (hk : k < v.lines.length) : 1 ≤ v.lines[k].minutes ∧ v.lines[k].minutes ≤ 300 := by
  simp only [DayC.ok, Bool.and_eq_true] at h
  have := allUpto_iff.1 h.1.2 k hk
  simp only [lnStep, hk, ↓reduceDIte, inB, Bool.and_eq_true, decide_eq_true_eq] at this
  omega
def castB (v : DayC) : Bool := decide (0 ≤ v.cast) && decide (v.minute - v.cast ≤ 240)
def castF (v : DayC) : Bool × Bool := if v.ok then (castB v, true) else (false, false)
set_option maxHeartbeats 400000 in
theorem s_l25Cast (v : DayV) (o : Bool) (ho : castB v.core = o) (w : World) (hk : v.core.ok = true) :
    Calls Tryd.prog 28 #[v.val] w fun e w' => e = .returned (.bool o) ∧ ∃ g, w' = plus w g := by
  subst ho
  obtain ⟨⟨minute, state, lines, line, since, cast, fuel⟩, A, c⟩ := v
  obtain ⟨b1, b2, b3, b4, b5, b6, b7, b8, b9⟩ := DayC.bounds hk
  simp only at b1 b2 b3 b4 b5 b6 b7 b8
  clear b9 hk
  go_enter Tryd.func28, Tryd.ntmps28
  go_wp2
  all_goals
    go_ret
    exact ⟨ret_bool (by simp only [castB]; grind), by (repeat (first | with_reducible exact grew_refl _ | with_reducible assumption | with_reducible refine grew_split ?_ | with_reducible refine grew_mk ?_ | with_reducible refine grew_plus ?_ | with_reducible refine grew_alloc ?_ | with_reducible refine grew_drew ?_ | (with_reducible refine grew_set ?_ (by first | exact Nat.le_refl _ | omega | (simp [go_sem]; done) | (simp [go_sem]; omega)))))⟩
set_option maxHeartbeats 400000 in
theorem i_castIsGood (v : DayV) (o : Bool) (ho : castB v.core = o) (w : World) (hk : v.core.ok = true) :
    Calls Tryd.prog 27 #[v.val] w fun e w' => e = .returned (.bool o) ∧ ∃ g, w' = plus w g := by
  subst ho
  obtain ⟨⟨minute, state, lines, line, since, cast, fuel⟩, A, c⟩ := v
  obtain ⟨b1, b2, b3, b4, b5, b6, b7, b8, b9⟩ := DayC.bounds hk
  simp only at b1 b2 b3 b4 b5 b6 b7 b8
  clear b9 hk
  go_enter Tryd.func27, Tryd.ntmps27
  go_wp2
  all_goals
    go_ret
    exact ⟨ret_bool (by simp only [castB]; grind), by (repeat (first | with_reducible exact grew_refl _ | with_reducible assumption | with_reducible refine grew_split ?_ | with_reducible refine grew_mk ?_ | with_reducible refine grew_plus ?_ | with_reducible refine grew_alloc ?_ | with_reducible refine grew_drew ?_ | (with_reducible refine grew_set ?_ (by first | exact Nat.le_refl _ | omega | (simp [go_sem]; done) | (simp [go_sem]; omega)))))⟩
set_option maxHeartbeats 1000000 in
theorem s_CastIsGood (v : DayV) (w : World) (hv : v.At w) :
    Calls Tryd.prog 16 #[v.val] w fun e w' => e = .returned (.tuple #[.bool (castF v.core).1, .bool (castF v.core).2]) ∧ ∃ g, w' = plus w g := by
  have HV := hid hv
  cases ho : v.core.ok
  · have HF : Hid (castF v.core = (false, false)) := hid (by simp [castF, ho])
    clear hv
    go_enter Tryd.func16, Tryd.ntmps16
    go_wp2_with (go_at_call 22; refine (s_l25Good v _ ho _ (HV.out.alloc _)).mono ?_; (rintro e w' ⟨rfl, gx, rfl⟩))
    go_ret2
    exact ⟨ret_bb (by rw [HF.out]) (by rw [HF.out]), by (repeat (first | with_reducible exact grew_refl _ | with_reducible assumption | with_reducible refine grew_split ?_ | with_reducible refine grew_mk ?_ | with_reducible refine grew_plus ?_ | with_reducible refine grew_alloc ?_ | with_reducible refine grew_drew ?_ | (with_reducible refine grew_set ?_ (by first | exact Nat.le_refl _ | omega | (simp [go_sem]; done) | (simp [go_sem]; omega)))))⟩
  · have HF : Hid (castF v.core = (castB v.core, true)) := hid (by simp [castF, ho])
    clear hv
    go_enter Tryd.func16, Tryd.ntmps16
    go_wp2_with (first | (go_at_call 22; refine (s_l25Good v _ ho _ (HV.out.alloc _)).mono ?_; (rintro e w' ⟨rfl, gx, rfl⟩)) | (go_at_call 28; refine (s_l25Cast v _ rfl _ ho).mono ?_; (rintro e w' ⟨rfl, gx, rfl⟩)))
    go_ret2
    exact ⟨ret_bb (by rw [HF.out]) (by rw [HF.out]), by (repeat (first | with_reducible exact grew_refl _ | with_reducible assumption | with_reducible refine grew_split ?_ | with_reducible refine grew_mk ?_ | with_reducible refine grew_plus ?_ | with_reducible refine grew_alloc ?_ | with_reducible refine grew_drew ?_ | (with_reducible refine grew_set ?_ (by first | exact Nat.le_refl _ | omega | (simp [go_sem]; done) | (simp [go_sem]; omega)))))⟩
set_option maxHeartbeats 1000000 in
theorem i_CastIsGood (v : DayV) (w : World) (hv : v.At w) :
    Calls Tryd.prog 15 #[v.val] w fun e w' => e = .returned (.tuple #[.bool (castF v.core).1, .bool (castF v.core).2]) ∧ ∃ g, w' = plus w g := by
  have HV := hid hv
  cases ho : v.core.ok
  · have HF : Hid (castF v.core = (false, false)) := hid (by simp [castF, ho])
    clear hv
    go_enter Tryd.func15, Tryd.ntmps15
    go_wp2_with (go_at_call 21; refine (i_IsSurveyDay v _ ho _ (HV.out.alloc _)).mono ?_; (rintro e w' ⟨rfl, gx, rfl⟩))
    go_ret2
    exact ⟨ret_bb (by rw [HF.out]) (by rw [HF.out]), by (repeat (first | with_reducible exact grew_refl _ | with_reducible assumption | with_reducible refine grew_split ?_ | with_reducible refine grew_mk ?_ | with_reducible refine grew_plus ?_ | with_reducible refine grew_alloc ?_ | with_reducible refine grew_drew ?_ | (with_reducible refine grew_set ?_ (by first | exact Nat.le_refl _ | omega | (simp [go_sem]; done) | (simp [go_sem]; omega)))))⟩
  · have HF : Hid (castF v.core = (castB v.core, true)) := hid (by simp [castF, ho])
    clear hv
    go_enter Tryd.func15, Tryd.ntmps15
    go_wp2_with (first | (go_at_call 21; refine (i_IsSurveyDay v _ ho _ (HV.out.alloc _)).mono ?_; (rintro e w' ⟨rfl, gx, rfl⟩)) | (go_at_call 27; refine (i_castIsGood v _ rfl _ ho).mono ?_; (rintro e w' ⟨rfl, gx, rfl⟩)))
    go_ret2
    exact ⟨ret_bb (by rw [HF.out]) (by rw [HF.out]), by (repeat (first | with_reducible exact grew_refl _ | with_reducible assumption | with_reducible refine grew_split ?_ | with_reducible refine grew_mk ?_ | with_reducible refine grew_plus ?_ | with_reducible refine grew_alloc ?_ | with_reducible refine grew_drew ?_ | (with_reducible refine grew_set ?_ (by first | exact Nat.le_refl _ | omega | (simp [go_sem]; done) | (simp [go_sem]; omega)))))⟩

/-- What is left to do of line k. -/
def leftAt (v : DayC) (k : Nat) : Int :=
  if h : k < v.lines.length then (if v.lines[k].done then 0 else if (k : Int) + 1 = v.line then v.lines[k].minutes - min (v.minute - v.since) v.lines[k].minutes else v.lines[k].minutes) else 0
def leftTo (v : DayC) : Nat → Int
  | 0 => 0
  | k + 1 => leftTo v k + leftAt v k
theorem leftTo_bound {v : DayC} (h : v.ok = true) : ∀ k, k ≤ v.lines.length → 0 ≤ leftTo v k ∧ leftTo v k ≤ 300 * k := by
  intro k
  induction k with
  | zero => intro _; simp [leftTo]
  | succ k ih =>
    intro hk
    have h0 := ih (by omega)
    have hm := DayC.mins h (show k < v.lines.length by omega)
    obtain ⟨b1, b2, b3, b4, b5, b6, b7, b8, b9, b10, b11, b12, _⟩ := DayC.bounds h
    have hlt : k < v.lines.length := by omega
    simp only [leftTo, leftAt, hlt, ↓reduceDIte]
    split
    · omega
    · split <;> omega
def leftF (v : DayC) : Int × Bool := if v.ok then (leftTo v v.lines.length, true) else (0, false)
set_option maxHeartbeats 2000000 in
theorem i_SurveyMinutesLeft (v : DayV) (w : World) (hv : v.At w) :
    Calls Tryd.prog 6 #[v.val] w fun e w' => e = .returned (.tuple #[.int .i64 (leftF v.core).1, .bool (leftF v.core).2]) ∧ ∃ g, w' = plus w g := by
  have HV := hid hv
  cases ho : v.core.ok
  · have HF : Hid (leftF v.core = (0, false)) := hid (by simp [leftF, ho])
    clear hv
    go_enter Tryd.func6, Tryd.ntmps6
    go_wp2_with (go_at_call 21; refine (i_IsSurveyDay v _ ho _ (HV.out.alloc _)).mono ?_; (rintro e w' ⟨rfl, gx, rfl⟩))
    go_ret2
    exact ⟨ret_ib (by rw [HF.out]) (by rw [HF.out]), by (repeat (first | with_reducible exact grew_refl _ | with_reducible assumption | with_reducible refine grew_split ?_ | with_reducible refine grew_mk ?_ | with_reducible refine grew_plus ?_ | with_reducible refine grew_alloc ?_ | with_reducible refine grew_drew ?_ | (with_reducible refine grew_set ?_ (by first | exact Nat.le_refl _ | omega | (simp [go_sem]; done) | (simp [go_sem]; omega)))))⟩
  · have HF : Hid (leftF v.core = (leftTo v.core v.core.lines.length, true)) := hid (by simp [leftF, ho])
    have HO := hid ho
    clear hv
    go_enter Tryd.func6, Tryd.ntmps6
    go_wp2_with (go_at_call 21; refine (i_IsSurveyDay v _ ho _ (HV.out.alloc _)).mono ?_; (rintro e w' ⟨rfl, gx, rfl⟩))
    have hp := HV.out.ln
    have hb := DayC.bounds ho
    obtain ⟨⟨minute, state, lines, line, since, cast, fuel⟩, A, c⟩ := v
    simp only at hp hb HO HF ⊢
    obtain ⟨b1, b2, b3, b4, b5, b6, b7, b8, b9, b10, b11, b12, b13, b14⟩ := hb
    clear ho
    go_loopw [4, 13, 6] (fun a i _ wr => ∃ k : Nat, k ≤ lines.length ∧ i = .int .i64 k ∧ a = .int .i64 (leftTo ⟨minute, state, lines, line, since, cast, fuel⟩ k) ∧ (∃ g, wr = plus (w.alloc (.cells #[.int .i64 minute, .int .i64 state, .slice A lines.length c, .int .i64 line, .int .i64 since, .int .i64 cast, .int .i64 fuel] 26)) g)) (fun _ i _ _ => lines.length - (intOf i).toNat)
    case atStart => exact ⟨0, Nat.zero_le _, rfl, rfl, by (repeat (first | with_reducible exact grew_refl _ | with_reducible assumption | with_reducible refine grew_split ?_ | with_reducible refine grew_mk ?_ | with_reducible refine grew_plus ?_ | with_reducible refine grew_alloc ?_ | with_reducible refine grew_drew ?_ | (with_reducible refine grew_set ?_ (by first | exact Nat.le_refl _ | omega | (simp [go_sem]; done) | (simp [go_sem]; omega)))))⟩
    case round =>
      obtain ⟨k, hk, rfl, rfl, g, rfl⟩ := hrel
      obtain ⟨l0, l1⟩ := leftTo_bound HO.out k hk
      by_cases hlt : k < lines.length
      · obtain ⟨b, off, rfl, hb, hc⟩ := hp.at_ hlt
        obtain ⟨hc0, hc1⟩ := lcells hc hlt
        obtain ⟨m0, m1⟩ := DayC.mins HO.out hlt
        have HA : Hid (leftTo ⟨minute, state, lines, line, since, cast, fuel⟩ (k + 1) = leftTo ⟨minute, state, lines, line, since, cast, fuel⟩ k + if lines[k].done then 0 else if (k : Int) + 1 = line then lines[k].minutes - min (minute - since) lines[k].minutes else lines[k].minutes) := hid (by simp [leftTo, leftAt, hlt])
        simp only at m0 m1
        clear hc hp
        go_wp2
        all_goals
          go_roundw
          case rel => exact ⟨k + 1, by omega, by go_num, vint (by rw [HA.out]; grind), by (repeat (first | with_reducible exact grew_refl _ | with_reducible assumption | with_reducible refine grew_split ?_ | with_reducible refine grew_mk ?_ | with_reducible refine grew_plus ?_ | with_reducible refine grew_alloc ?_ | with_reducible refine grew_drew ?_ | (with_reducible refine grew_set ?_ (by first | exact Nat.le_refl _ | omega | (simp [go_sem]; done) | (simp [go_sem]; omega)))))⟩
          case measure => simp [intOf]; omega
      · obtain rfl : k = lines.length := by omega
        clear hp
        go_wp2
        go_ret2
        exact ⟨ret_ib (by rw [HF.out]) (by rw [HF.out]), by (repeat (first | with_reducible exact grew_refl _ | with_reducible assumption | with_reducible refine grew_split ?_ | with_reducible refine grew_mk ?_ | with_reducible refine grew_plus ?_ | with_reducible refine grew_alloc ?_ | with_reducible refine grew_drew ?_ | (with_reducible refine grew_set ?_ (by first | exact Nat.le_refl _ | omega | (simp [go_sem]; done) | (simp [go_sem]; omega)))))⟩
set_option maxHeartbeats 2000000 in
theorem s_SurveyMinutesLeft (v : DayV) (w : World) (hv : v.At w) :
    Calls Tryd.prog 7 #[v.val] w fun e w' => e = .returned (.tuple #[.int .i64 (leftF v.core).1, .bool (leftF v.core).2]) ∧ ∃ g, w' = plus w g := by
  have HV := hid hv
  cases ho : v.core.ok
  · have HF : Hid (leftF v.core = (0, false)) := hid (by simp [leftF, ho])
    clear hv
    go_enter Tryd.func7, Tryd.ntmps7
    go_wp2_with (go_at_call 22; refine (s_l25Good v _ ho _ (HV.out.alloc _)).mono ?_; (rintro e w' ⟨rfl, gx, rfl⟩))
    go_ret2
    exact ⟨ret_ib (by rw [HF.out]) (by rw [HF.out]), by (repeat (first | with_reducible exact grew_refl _ | with_reducible assumption | with_reducible refine grew_split ?_ | with_reducible refine grew_mk ?_ | with_reducible refine grew_plus ?_ | with_reducible refine grew_alloc ?_ | with_reducible refine grew_drew ?_ | (with_reducible refine grew_set ?_ (by first | exact Nat.le_refl _ | omega | (simp [go_sem]; done) | (simp [go_sem]; omega)))))⟩
  · have HF : Hid (leftF v.core = (leftTo v.core v.core.lines.length, true)) := hid (by simp [leftF, ho])
    have HO := hid ho
    clear hv
    go_enter Tryd.func7, Tryd.ntmps7
    go_wp2_with (go_at_call 22; refine (s_l25Good v _ ho _ (HV.out.alloc _)).mono ?_; (rintro e w' ⟨rfl, gx, rfl⟩))
    have hp := HV.out.ln
    have hb := DayC.bounds ho
    obtain ⟨⟨minute, state, lines, line, since, cast, fuel⟩, A, c⟩ := v
    simp only at hp hb HO HF ⊢
    obtain ⟨b1, b2, b3, b4, b5, b6, b7, b8, b9, b10, b11, b12, b13, b14⟩ := hb
    clear ho
    go_loopw [4, 5] (fun a i wr => ∃ k : Nat, k ≤ lines.length ∧ i = .int .i64 k ∧ a = .int .i64 (leftTo ⟨minute, state, lines, line, since, cast, fuel⟩ k) ∧ (∃ g, wr = plus (w.alloc (.cells #[.int .i64 minute, .int .i64 state, .slice A lines.length c, .int .i64 line, .int .i64 since, .int .i64 cast, .int .i64 fuel] 26)) g)) (fun _ i _ => lines.length - (intOf i).toNat)
    case atStart => exact ⟨0, Nat.zero_le _, rfl, rfl, by (repeat (first | with_reducible exact grew_refl _ | with_reducible assumption | with_reducible refine grew_split ?_ | with_reducible refine grew_mk ?_ | with_reducible refine grew_plus ?_ | with_reducible refine grew_alloc ?_ | with_reducible refine grew_drew ?_ | (with_reducible refine grew_set ?_ (by first | exact Nat.le_refl _ | omega | (simp [go_sem]; done) | (simp [go_sem]; omega)))))⟩
    case round =>
      obtain ⟨k, hk, rfl, rfl, g, rfl⟩ := hrel
      obtain ⟨l0, l1⟩ := leftTo_bound HO.out k hk
      by_cases hlt : k < lines.length
      · obtain ⟨b, off, rfl, hb, hc⟩ := hp.at_ hlt
        obtain ⟨hc0, hc1⟩ := lcells hc hlt
        obtain ⟨m0, m1⟩ := DayC.mins HO.out hlt
        have HA : Hid (leftTo ⟨minute, state, lines, line, since, cast, fuel⟩ (k + 1) = leftTo ⟨minute, state, lines, line, since, cast, fuel⟩ k + if lines[k].done then 0 else if (k : Int) + 1 = line then lines[k].minutes - min (minute - since) lines[k].minutes else lines[k].minutes) := hid (by simp [leftTo, leftAt, hlt])
        simp only at m0 m1
        clear hc hp
        cases hd : lines[k].done
        · by_cases hl : (k : Int) + 1 = line
          · have hl' : (line == (k : Int) + 1) = true := by rw [hl]; simp
            have HL := hid hl
            clear hl
            go_wp2_with fail
            (refine wp_region_calm (by kernel_rfl) (by kernel_rfl) ?_; (repeat' (first | go_big_quiet_step ((go_at_call 23; first | exact calm_same (s_l1Least _ _ _) | exact calm_add_same (s_l1Least _ _ _))) | (refine wpQuiet_step (fun K hK => ?_); go_simp; go_ite <;> go_simp <;> (first | (refine hK _ ?_; clear hK K) | (apply Exists.intro; refine ⟨fun _ => ?_, hK _ ?_⟩; ((go_at_call 23; first | exact calm_same (s_l1Least _ _ _) | exact calm_add_same (s_l1Least _ _ _))); clear hK K))))); all_goals (refine wpQuiet_nil ?_; intro _ hw'; obtain ⟨gq, hw''⟩ := hw'; subst hw''))
            go_wp2
            go_roundw
            case rel => exact ⟨k + 1, by omega, by go_num, vint (by rw [HA.out]; have := HL.out; grind), by (repeat (first | with_reducible exact grew_refl _ | with_reducible assumption | with_reducible refine grew_split ?_ | with_reducible refine grew_mk ?_ | with_reducible refine grew_plus ?_ | with_reducible refine grew_alloc ?_ | with_reducible refine grew_drew ?_ | (with_reducible refine grew_set ?_ (by first | exact Nat.le_refl _ | omega | (simp [go_sem]; done) | (simp [go_sem]; omega)))))⟩
            case measure => simp [intOf]; omega
          · have hl' : (line == (k : Int) + 1) = false := by rw [beq_eq_false_iff_ne]; omega
            have HL := hid hl
            clear hl
            go_wp2
            go_roundw
            case rel => exact ⟨k + 1, by omega, by go_num, vint (by rw [HA.out]; have := HL.out; grind), by (repeat (first | with_reducible exact grew_refl _ | with_reducible assumption | with_reducible refine grew_split ?_ | with_reducible refine grew_mk ?_ | with_reducible refine grew_plus ?_ | with_reducible refine grew_alloc ?_ | with_reducible refine grew_drew ?_ | (with_reducible refine grew_set ?_ (by first | exact Nat.le_refl _ | omega | (simp [go_sem]; done) | (simp [go_sem]; omega)))))⟩
            case measure => simp [intOf]; omega
        · go_wp2
          go_roundw
          case rel => exact ⟨k + 1, by omega, by go_num, vint (by rw [HA.out]; grind), by (repeat (first | with_reducible exact grew_refl _ | with_reducible assumption | with_reducible refine grew_split ?_ | with_reducible refine grew_mk ?_ | with_reducible refine grew_plus ?_ | with_reducible refine grew_alloc ?_ | with_reducible refine grew_drew ?_ | (with_reducible refine grew_set ?_ (by first | exact Nat.le_refl _ | omega | (simp [go_sem]; done) | (simp [go_sem]; omega)))))⟩
          case measure => simp [intOf]; omega
      · obtain rfl : k = lines.length := by omega
        clear hp
        go_wp2
        go_ret2
        exact ⟨ret_ib (by rw [HF.out]) (by rw [HF.out]), by (repeat (first | with_reducible exact grew_refl _ | with_reducible assumption | with_reducible refine grew_split ?_ | with_reducible refine grew_mk ?_ | with_reducible refine grew_plus ?_ | with_reducible refine grew_alloc ?_ | with_reducible refine grew_drew ?_ | (with_reducible refine grew_set ?_ (by first | exact Nat.le_refl _ | omega | (simp [go_sem]; done) | (simp [go_sem]; omega)))))⟩
end Go.Proofs.YtcljcbbkbepmjaaDoor
