/- Whether the cast is good, and the minutes that are left, in both packages. -/
import Derived.Test.YtcljcbbkbepmjaaD2
import Derived.Test.YtcljcbbkbepmjaaL2
namespace Go.Proofs.Ytcljcbbkbepmjaa
open Go.RowKit

theorem ret_bb {a b c d : Bool} (h : a = b) (h' : c = d) : Ending.returned (.tuple #[.bool a, .bool c]) = .returned (.tuple #[.bool b, .bool d]) := by rw [h, h']
theorem ret_ib {a b : Int} {c d : Bool} (h : a = b) (h' : c = d) : Ending.returned (.tuple #[.int .i64 a, .bool c]) = .returned (.tuple #[.int .i64 b, .bool d]) := by rw [h, h']
theorem DayC.bounds {v : DayC} (h : v.ok = true) : 0 ≤ v.minute ∧ v.minute ≤ 1440 ∧ 0 ≤ v.state ∧ v.state ≤ 2 ∧ 1 ≤ v.lines.length ∧ v.lines.length ≤ 8 ∧ -1 ≤ v.cast ∧ v.cast ≤ v.minute ∧ 0 ≤ v.fuel ∧ v.fuel ≤ 9999 ∧ 0 ≤ v.since ∧ v.since ≤ v.minute ∧ 0 ≤ v.line ∧ v.line ≤ v.lines.length := by
  simp only [DayC.ok, DayC.pre, DayC.post, inB, Bool.and_eq_true, decide_eq_true_eq] at h
  obtain ⟨⟨h1, _⟩, h2⟩ := h
  split at h2 <;> simp only [Bool.and_eq_true, decide_eq_true_eq, beq_iff_eq] at h2 <;> omega
theorem DayC.mins {v : DayC} (h : v.ok = true) {k : Nat} (hk : k < v.lines.length) : 1 ≤ v.lines[k].minutes ∧ v.lines[k].minutes ≤ 300 := by
  simp only [DayC.ok, Bool.and_eq_true] at h
  have := allUpto_iff.1 h.1.2 k hk
  simp only [lnStep, hk, ↓reduceDIte, inB, Bool.and_eq_true, decide_eq_true_eq] at this
  omega
def castB (v : DayC) : Bool := decide (0 ≤ v.cast) && decide (v.minute - v.cast ≤ 240)
def castF (v : DayC) : Bool × Bool := if v.ok then (castB v, true) else (false, false)
set_option maxHeartbeats 400000 in
theorem s_l25Cast (v : DayV) (o : Bool) (ho : castB v.core = o) (w : World) (hk : v.core.ok = true) :
    Calls Try.prog 38 #[v.val] w fun e w' => e = .returned (.bool o) ∧ ∃ g, w' = plus w g := by
  subst ho
  obtain ⟨⟨minute, state, lines, line, since, cast, fuel⟩, A, c⟩ := v
  obtain ⟨b1, b2, b3, b4, b5, b6, b7, b8, b9⟩ := DayC.bounds hk
  simp only at b1 b2 b3 b4 b5 b6 b7 b8
  clear b9 hk
  go_enter Try.func38, Try.ntmps38
  go_wp2
  all_goals
    go_ret
    exact ⟨ret_bool (by simp only [castB]; grind), by (repeat (first | with_reducible exact grew_refl _ | with_reducible assumption | with_reducible refine grew_split ?_ | with_reducible refine grew_mk ?_ | with_reducible refine grew_plus ?_ | with_reducible refine grew_alloc ?_ | with_reducible refine grew_drew ?_ | (with_reducible refine grew_set ?_ (by first | exact Nat.le_refl _ | omega | (simp [go_sem]; done) | (simp [go_sem]; omega)))))⟩
set_option maxHeartbeats 400000 in
theorem i_castIsGood (v : DayV) (o : Bool) (ho : castB v.core = o) (w : World) (hk : v.core.ok = true) :
    Calls Try.prog 28 #[v.val] w fun e w' => e = .returned (.bool o) ∧ ∃ g, w' = plus w g := by
  subst ho
  obtain ⟨⟨minute, state, lines, line, since, cast, fuel⟩, A, c⟩ := v
  obtain ⟨b1, b2, b3, b4, b5, b6, b7, b8, b9⟩ := DayC.bounds hk
  simp only at b1 b2 b3 b4 b5 b6 b7 b8
  clear b9 hk
  go_enter Try.func28, Try.ntmps28
  go_wp2
  all_goals
    go_ret
    exact ⟨ret_bool (by simp only [castB]; grind), by (repeat (first | with_reducible exact grew_refl _ | with_reducible assumption | with_reducible refine grew_split ?_ | with_reducible refine grew_mk ?_ | with_reducible refine grew_plus ?_ | with_reducible refine grew_alloc ?_ | with_reducible refine grew_drew ?_ | (with_reducible refine grew_set ?_ (by first | exact Nat.le_refl _ | omega | (simp [go_sem]; done) | (simp [go_sem]; omega)))))⟩
set_option maxHeartbeats 1000000 in
theorem i_CastIsGood (v : DayV) (w : World) (hv : v.At w) :
    Calls Try.prog 11 #[v.val] w fun e w' => e = .returned (.tuple #[.bool (castF v.core).1, .bool (castF v.core).2]) ∧ ∃ g, w' = plus w g := by
  have HV := hid hv
  cases ho : v.core.ok
  · have HF : Hid (castF v.core = (false, false)) := hid (by simp [castF, ho])
    clear hv
    go_enter Try.func11, Try.ntmps11
    go_wp2_with (go_at_call 9; refine (i_IsSurveyDay v _ ho _ (HV.out.alloc _)).mono ?_; (rintro e w' ⟨rfl, gx, rfl⟩))
    go_ret2
    exact ⟨ret_bb (by rw [HF.out]) (by rw [HF.out]), by (repeat (first | with_reducible exact grew_refl _ | with_reducible assumption | with_reducible refine grew_split ?_ | with_reducible refine grew_mk ?_ | with_reducible refine grew_plus ?_ | with_reducible refine grew_alloc ?_ | with_reducible refine grew_drew ?_ | (with_reducible refine grew_set ?_ (by first | exact Nat.le_refl _ | omega | (simp [go_sem]; done) | (simp [go_sem]; omega)))))⟩
  · have HF : Hid (castF v.core = (castB v.core, true)) := hid (by simp [castF, ho])
    clear hv
    go_enter Try.func11, Try.ntmps11
    go_wp2_with (first | (go_at_call 9; refine (i_IsSurveyDay v _ ho _ (HV.out.alloc _)).mono ?_; (rintro e w' ⟨rfl, gx, rfl⟩)) | (go_at_call 28; refine (i_castIsGood v _ rfl _ ho).mono ?_; (rintro e w' ⟨rfl, gx, rfl⟩)))
    go_ret2
    exact ⟨ret_bb (by rw [HF.out]) (by rw [HF.out]), by (repeat (first | with_reducible exact grew_refl _ | with_reducible assumption | with_reducible refine grew_split ?_ | with_reducible refine grew_mk ?_ | with_reducible refine grew_plus ?_ | with_reducible refine grew_alloc ?_ | with_reducible refine grew_drew ?_ | (with_reducible refine grew_set ?_ (by first | exact Nat.le_refl _ | omega | (simp [go_sem]; done) | (simp [go_sem]; omega)))))⟩
set_option maxHeartbeats 1000000 in
theorem s_IsSurveyDay (v : DayV) (o : Bool) (ho : v.core.ok = o) (w : World) (hv : v.At w) :
    Calls Try.prog 10 #[v.val] w fun e w' => e = .returned (.bool o) ∧ ∃ g, w' = plus w g := by
  have HV := hid hv
  clear hv
  go_enter Try.func10, Try.ntmps10
  go_wp2_with (go_at_call 23; refine (s_l25Good v _ ho _ (HV.out.alloc _)).mono ?_; (rintro e w' ⟨rfl, gx, rfl⟩))
  go_ret
  exact ⟨rfl, by (repeat (first | with_reducible exact grew_refl _ | with_reducible assumption | with_reducible refine grew_split ?_ | with_reducible refine grew_mk ?_ | with_reducible refine grew_plus ?_ | with_reducible refine grew_alloc ?_ | with_reducible refine grew_drew ?_ | (with_reducible refine grew_set ?_ (by first | exact Nat.le_refl _ | omega | (simp [go_sem]; done) | (simp [go_sem]; omega)))))⟩

/-- What is left to do of line k. -/
def leftAt (v : DayC) (k : Nat) : Int :=
  if h : k < v.lines.length then (if v.lines[k].done then 0 else if (k : Int) + 1 = v.line then v.lines[k].minutes - min (v.minute - v.since) v.lines[k].minutes else v.lines[k].minutes) else 0
def leftTo (v : DayC) : Nat → Int
  | 0 => 0
  | k + 1 => leftTo v k + leftAt v k
theorem leftTo_bound {v : DayC} (h : v.ok = true) : ∀ k, k ≤ v.lines.length → 0 ≤ leftTo v k ∧ leftTo v k ≤ 300 * k := by
  intro k
  induction k with
  | zero => intro _; simp [leftTo]
  | succ k ih =>
    intro hk
    have h0 := ih (by omega)
    have hm := DayC.mins h (show k < v.lines.length by omega)
    obtain ⟨b1, b2, b3, b4, b5, b6, b7, b8, b9, b10, b11, b12, _⟩ := DayC.bounds h
    have hlt : k < v.lines.length := by omega
    simp only [leftTo, leftAt, hlt, ↓reduceDIte]
    split
    · omega
    · split <;> omega
def leftF (v : DayC) : Int × Bool := if v.ok then (leftTo v v.lines.length, true) else (0, false)
end Go.Proofs.Ytcljcbbkbepmjaa
