/- Survey days: their values; which are good, in both packages; whether the cast is good. Conditions: lengths that an int holds. -/
import Derived.Test.YtcljcbbkbepmjaaDoorL1
import Derived.Test.YtcljcbbkbepmjaaDoorMem
namespace Go.Proofs.YtcljcbbkbepmjaaDoor
open Go.RowKit

structure LineR where
  minutes : Int
  done : Bool
def LineR.row (p : LineR) : List Value := [.int .i64 p.minutes, .bool p.done]
structure DayC where
  minute : Int
  state : Int
  lines : List LineR
  line : Int
  since : Int
  cast : Int
  fuel : Int
structure DayV where
  core : DayC
  A : Option Addr
  c : Nat
def DayV.row (v : DayV) : List Value := [.int .i64 v.core.minute, .int .i64 v.core.state, .slice v.A v.core.lines.length v.c, .int .i64 v.core.line, .int .i64 v.core.since, .int .i64 v.core.cast, .int .i64 v.core.fuel]
abbrev DayV.val (v : DayV) : Value := .agg #[.int .i64 v.core.minute, .int .i64 v.core.state, .slice v.A v.core.lines.length v.c, .int .i64 v.core.line, .int .i64 v.core.since, .int .i64 v.core.cast, .int .i64 v.core.fuel]
/-- The day's lines lie in memory as they should. -/
structure DayV.At (w : World) (v : DayV) : Prop where
  ln : Sl w 2 LineR.row v.A v.core.lines
  len : v.core.lines.length ≤ maxLen
theorem DayV.At.grew {w w' : World} {v : DayV} (h : v.At w) (hg : ∃ g, w' = Go.Proofs.YtcljcbbkbepmjaaDoor.plus w g) : v.At w' := ⟨h.ln.grew hg, h.len⟩
theorem DayV.At.alloc {w : World} {v : DayV} (h : v.At w) (o : Obj) : v.At (w.alloc o) := ⟨h.ln.alloc o, h.len⟩
theorem lcells {w : World} {b off : Nat} {l : List LineR} (hc : ∀ i (hi : i < l.length) j u, (LineR.row l[i])[j]? = some u → w.cell? ⟨b, off + i * 2 + j, none⟩ = some u) {k : Nat} (hk : k < l.length) :
    w.cell? ⟨b, off + k * 2, none⟩ = some (.int .i64 l[k].minutes) ∧ w.cell? ⟨b, off + k * 2 + 1, none⟩ = some (.bool l[k].done) :=
  ⟨hc k hk 0 _ rfl, hc k hk 1 _ rfl⟩
def lnStep (l : List LineR) (i : Nat) : Bool := if h : i < l.length then inB l[i].minutes 1 300 else true
def doneAt (l : List LineR) (j : Nat) : Bool := if h : j < l.length then l[j].done else false
def DayC.pre (v : DayC) : Bool := inB v.minute 0 1440 && inB v.state 0 2 && inB v.lines.length 1 8 && inB v.cast (-1) v.minute && inB v.fuel 0 9999
def DayC.post (v : DayC) : Bool := if v.state = 2 then inB v.line 1 v.lines.length && !doneAt v.lines (v.line - 1).toNat && inB v.since 0 v.minute else v.line == 0 && v.since == 0
def DayC.ok (v : DayC) : Bool := v.pre && allUpto (lnStep v.lines) v.lines.length && v.post
theorem DayC.no_pre {v : DayC} (h : v.pre = false) : v.ok = false := by simp [DayC.ok, h]
theorem DayC.no_line {v : DayC} {k : Nat} (hk : k < v.lines.length) (h : lnStep v.lines k = false) : v.ok = false := by
  rw [DayC.ok, allUpto_no hk h]; simp

set_option maxHeartbeats 2000000 in
theorem s_l25Good (v : DayV) (o : Bool) (ho : v.core.ok = o) (w : World) (hv : v.At w) :
    Calls Tryd.prog 22 #[v.val] w fun e w' => e = .returned (.bool o) ∧ ∃ g, w' = plus w g := by
  subst ho
  obtain ⟨⟨minute, state, lines, line, since, cast, fuel⟩, A, c⟩ := v
  have hl := hv.len
  have hp := hv.ln
  simp only at hl hp ⊢
  unfold maxLen at hl
  clear hv
  cases hpre : DayC.pre ⟨minute, state, lines, line, since, cast, fuel⟩
  · have HH := hid (DayC.no_pre hpre)
    have HP := hid hpre
    have HS := hid hp
    clear hpre hp
    go_enter Tryd.func22, Tryd.ntmps22
    go_wp2_with (go_at_call 33; refine (s_l1In _ _ _ _ rfl _).mono ?_; (rintro e w' ⟨rfl, rfl⟩))
    all_goals first
      | (go_ret
         exact ⟨ret_bool HH.out.symm, by (repeat (first | with_reducible exact grew_refl _ | with_reducible assumption | with_reducible refine grew_split ?_ | with_reducible refine grew_mk ?_ | with_reducible refine grew_plus ?_ | with_reducible refine grew_alloc ?_ | with_reducible refine grew_drew ?_ | (with_reducible refine grew_set ?_ (by first | exact Nat.le_refl _ | omega | (simp [go_sem]; done) | (simp [go_sem]; omega)))))⟩)
      | (exfalso; have h := HP.out; simp only [DayC.pre] at h; grind)
  have HP := hid hpre
  simp only [DayC.pre, Bool.and_eq_true] at hpre
  obtain ⟨⟨⟨⟨h1, h2⟩, h3⟩, h4⟩, h5⟩ := hpre
  have hN : ∀ k, k < lines.length → lnStep lines k = false → DayC.ok ⟨minute, state, lines, line, since, cast, fuel⟩ = false := fun k a b => DayC.no_line (v := ⟨minute, state, lines, line, since, cast, fuel⟩) a b
  have HN := hid hN
  clear hN
  go_enter Tryd.func22, Tryd.ntmps22
  go_wp2_with (go_at_call 33; refine (s_l1In _ _ _ _ (by assumption) _).mono ?_; (rintro e w' ⟨rfl, rfl⟩))
  clear h1 h2 h3 h4 h5
  go_loopw [3] (fun i wr => ∃ k : Nat, k ≤ lines.length ∧ i = .int .i64 k ∧ allUpto (lnStep lines) k = true ∧ (∃ g, wr = plus (w.alloc (.cells #[.int .i64 minute, .int .i64 state, .slice A lines.length c, .int .i64 line, .int .i64 since, .int .i64 cast, .int .i64 fuel] 26)) g)) (fun i _ => lines.length - (intOf i).toNat)
  case atStart => exact ⟨0, Nat.zero_le _, rfl, rfl, by (repeat (first | with_reducible exact grew_refl _ | with_reducible assumption | with_reducible refine grew_split ?_ | with_reducible refine grew_mk ?_ | with_reducible refine grew_plus ?_ | with_reducible refine grew_alloc ?_ | with_reducible refine grew_drew ?_ | (with_reducible refine grew_set ?_ (by first | exact Nat.le_refl _ | omega | (simp [go_sem]; done) | (simp [go_sem]; omega)))))⟩
  case round =>
    obtain ⟨k, hk, rfl, h0, g, rfl⟩ := hrel
    have H0 := hid h0
    clear h0
    by_cases hlt : k < lines.length
    · obtain ⟨b, off, rfl, hb, hc⟩ := hp.at_ hlt
      obtain ⟨hc0, hc1⟩ := lcells hc hlt
      have HF : Hid (lnStep lines k = inB lines[k].minutes 1 300) := hid (by simp [lnStep, hlt])
      clear hc hp
      go_wp2_with (go_at_call 33; refine (s_l1In _ _ _ _ rfl _).mono ?_; (rintro e w' ⟨rfl, rfl⟩))
      all_goals first
        | (go_roundw
           case rel => exact ⟨k + 1, by omega, by go_num, allUpto_step H0.out (by rw [HF.out]; grind), by (repeat (first | with_reducible exact grew_refl _ | with_reducible assumption | with_reducible refine grew_split ?_ | with_reducible refine grew_mk ?_ | with_reducible refine grew_plus ?_ | with_reducible refine grew_alloc ?_ | with_reducible refine grew_drew ?_ | (with_reducible refine grew_set ?_ (by first | exact Nat.le_refl _ | omega | (simp [go_sem]; done) | (simp [go_sem]; omega)))))⟩
           case measure => simp [intOf]; omega)
        | (go_ret
           exact ⟨ret_bool (HN.out k hlt (by rw [HF.out]; grind)).symm, by (repeat (first | with_reducible exact grew_refl _ | with_reducible assumption | with_reducible refine grew_split ?_ | with_reducible refine grew_mk ?_ | with_reducible refine grew_plus ?_ | with_reducible refine grew_alloc ?_ | with_reducible refine grew_drew ?_ | (with_reducible refine grew_set ?_ (by first | exact Nat.le_refl _ | omega | (simp [go_sem]; done) | (simp [go_sem]; omega)))))⟩)
    · obtain rfl : k = lines.length := by omega
      have HE : DayC.ok ⟨minute, state, lines, line, since, cast, fuel⟩ = DayC.post ⟨minute, state, lines, line, since, cast, fuel⟩ := by simp only [DayC.ok, HP.out, H0.out, Bool.true_and]
      by_cases hst : state = 2
      · subst hst
        by_cases hln : 1 ≤ line ∧ line ≤ lines.length
        · obtain ⟨j, rfl⟩ : ∃ j : Nat, line = (j : Int) + 1 := ⟨(line - 1).toNat, by omega⟩
          have hj : j < lines.length := by omega
          obtain ⟨b, off, rfl, hb, hc⟩ := hp.at_ hj
          obtain ⟨hc0, hc1⟩ := lcells hc hj
          have hin : inB ((j : Int) + 1) 1 lines.length = true := by simp [inB]; omega
          have HF : Hid (DayC.post ⟨minute, 2, lines, (j : Int) + 1, since, cast, fuel⟩ = (!lines[j].done && inB since 0 minute)) := hid (by
            have : ((j : Int) + 1 - 1).toNat = j := by omega
            simp only [DayC.post, if_true, hin, Bool.true_and, doneAt, this, hj, ↓reduceDIte])
          have HE := hid HE
          clear hc hp hln
          go_wp2_with (first | (go_at_call 33; (with_reducible refine (s_l1In _ _ _ _ hin _).mono ?_); (rintro e w' ⟨rfl, rfl⟩)) | (go_at_call 33; refine (s_l1In _ _ _ _ rfl _).mono ?_; (rintro e w' ⟨rfl, rfl⟩)))
          all_goals
            go_ret
            exact ⟨ret_bool (by rw [HE.out, HF.out]; grind), by (repeat (first | with_reducible exact grew_refl _ | with_reducible assumption | with_reducible refine grew_split ?_ | with_reducible refine grew_mk ?_ | with_reducible refine grew_plus ?_ | with_reducible refine grew_alloc ?_ | with_reducible refine grew_drew ?_ | (with_reducible refine grew_set ?_ (by first | exact Nat.le_refl _ | omega | (simp [go_sem]; done) | (simp [go_sem]; omega)))))⟩
        · have hin : inB line 1 lines.length = false := by simp [inB]; omega
          have HF : Hid (DayC.post ⟨minute, 2, lines, line, since, cast, fuel⟩ = false) := hid (by simp only [DayC.post, if_true, hin, Bool.false_and])
          have HE := hid HE
          clear hp hln
          go_wp2_with (go_at_call 33; refine (s_l1In _ _ _ _ hin _).mono ?_; (rintro e w' ⟨rfl, rfl⟩))
          go_ret
          exact ⟨ret_bool (by rw [HE.out, HF.out]), by (repeat (first | with_reducible exact grew_refl _ | with_reducible assumption | with_reducible refine grew_split ?_ | with_reducible refine grew_mk ?_ | with_reducible refine grew_plus ?_ | with_reducible refine grew_alloc ?_ | with_reducible refine grew_drew ?_ | (with_reducible refine grew_set ?_ (by first | exact Nat.le_refl _ | omega | (simp [go_sem]; done) | (simp [go_sem]; omega)))))⟩
      · have HF : Hid (DayC.post ⟨minute, state, lines, line, since, cast, fuel⟩ = (line == 0 && since == 0)) := hid (by simp only [DayC.post, hst, if_false])
        have HE := hid HE
        have hst' : (state != 2) = true := by simp [hst]
        clear hp hst
        go_wp2_with fail
        all_goals
          go_ret
          exact ⟨ret_bool (by rw [HE.out, HF.out]; grind), by (repeat (first | with_reducible exact grew_refl _ | with_reducible assumption | with_reducible refine grew_split ?_ | with_reducible refine grew_mk ?_ | with_reducible refine grew_plus ?_ | with_reducible refine grew_alloc ?_ | with_reducible refine grew_drew ?_ | (with_reducible refine grew_set ?_ (by first | exact Nat.le_refl _ | omega | (simp [go_sem]; done) | (simp [go_sem]; omega)))))⟩
set_option maxHeartbeats 2000000 in
theorem i_IsSurveyDay (v : DayV) (o : Bool) (ho : v.core.ok = o) (w : World) (hv : v.At w) :
    Calls Tryd.prog 21 #[v.val] w fun e w' => e = .returned (.bool o) ∧ ∃ g, w' = plus w g := by
  subst ho
  obtain ⟨⟨minute, state, lines, line, since, cast, fuel⟩, A, c⟩ := v
  have hl := hv.len
  have hp := hv.ln
  simp only at hl hp ⊢
  unfold maxLen at hl
  clear hv
  cases hpre : DayC.pre ⟨minute, state, lines, line, since, cast, fuel⟩
  · have HH := hid (DayC.no_pre hpre)
    have HP := hid hpre
    have HS := hid hp
    clear hpre hp
    go_enter Tryd.func21, Tryd.ntmps21
    go_wp2_with (go_at_call 32; refine (i_inside _ _ _ _ rfl _).mono ?_; (rintro e w' ⟨rfl, rfl⟩))
    all_goals first
      | (go_ret
         exact ⟨ret_bool HH.out.symm, by (repeat (first | with_reducible exact grew_refl _ | with_reducible assumption | with_reducible refine grew_split ?_ | with_reducible refine grew_mk ?_ | with_reducible refine grew_plus ?_ | with_reducible refine grew_alloc ?_ | with_reducible refine grew_drew ?_ | (with_reducible refine grew_set ?_ (by first | exact Nat.le_refl _ | omega | (simp [go_sem]; done) | (simp [go_sem]; omega)))))⟩)
      | (exfalso; have h := HP.out; simp only [DayC.pre] at h; grind)
  have HP := hid hpre
  simp only [DayC.pre, Bool.and_eq_true] at hpre
  obtain ⟨⟨⟨⟨h1, h2⟩, h3⟩, h4⟩, h5⟩ := hpre
  have hN : ∀ k, k < lines.length → lnStep lines k = false → DayC.ok ⟨minute, state, lines, line, since, cast, fuel⟩ = false := fun k a b => DayC.no_line (v := ⟨minute, state, lines, line, since, cast, fuel⟩) a b
  have HN := hid hN
  clear hN
  go_enter Tryd.func21, Tryd.ntmps21
  go_wp2_with (go_at_call 32; refine (i_inside _ _ _ _ (by assumption) _).mono ?_; (rintro e w' ⟨rfl, rfl⟩))
  clear h1 h2 h3 h4 h5
  go_loopw [39, 4] (fun i _ wr => ∃ k : Nat, k ≤ lines.length ∧ i = .int .i64 k ∧ allUpto (lnStep lines) k = true ∧ (∃ g, wr = plus (w.alloc (.cells #[.int .i64 minute, .int .i64 state, .slice A lines.length c, .int .i64 line, .int .i64 since, .int .i64 cast, .int .i64 fuel] 26)) g)) (fun i _ _ => lines.length - (intOf i).toNat)
  case atStart => exact ⟨0, Nat.zero_le _, rfl, rfl, by (repeat (first | with_reducible exact grew_refl _ | with_reducible assumption | with_reducible refine grew_split ?_ | with_reducible refine grew_mk ?_ | with_reducible refine grew_plus ?_ | with_reducible refine grew_alloc ?_ | with_reducible refine grew_drew ?_ | (with_reducible refine grew_set ?_ (by first | exact Nat.le_refl _ | omega | (simp [go_sem]; done) | (simp [go_sem]; omega)))))⟩
  case round =>
    obtain ⟨k, hk, rfl, h0, g, rfl⟩ := hrel
    have H0 := hid h0
    clear h0
    by_cases hlt : k < lines.length
    · obtain ⟨b, off, rfl, hb, hc⟩ := hp.at_ hlt
      obtain ⟨hc0, hc1⟩ := lcells hc hlt
      have HF : Hid (lnStep lines k = inB lines[k].minutes 1 300) := hid (by simp [lnStep, hlt])
      clear hc hp
      go_wp2_with (go_at_call 32; refine (i_inside _ _ _ _ rfl _).mono ?_; (rintro e w' ⟨rfl, rfl⟩))
      all_goals first
        | (go_roundw
           case rel => exact ⟨k + 1, by omega, by go_num, allUpto_step H0.out (by rw [HF.out]; grind), by (repeat (first | with_reducible exact grew_refl _ | with_reducible assumption | with_reducible refine grew_split ?_ | with_reducible refine grew_mk ?_ | with_reducible refine grew_plus ?_ | with_reducible refine grew_alloc ?_ | with_reducible refine grew_drew ?_ | (with_reducible refine grew_set ?_ (by first | exact Nat.le_refl _ | omega | (simp [go_sem]; done) | (simp [go_sem]; omega)))))⟩
           case measure => simp [intOf]; omega)
        | (go_ret
           exact ⟨ret_bool (HN.out k hlt (by rw [HF.out]; grind)).symm, by (repeat (first | with_reducible exact grew_refl _ | with_reducible assumption | with_reducible refine grew_split ?_ | with_reducible refine grew_mk ?_ | with_reducible refine grew_plus ?_ | with_reducible refine grew_alloc ?_ | with_reducible refine grew_drew ?_ | (with_reducible refine grew_set ?_ (by first | exact Nat.le_refl _ | omega | (simp [go_sem]; done) | (simp [go_sem]; omega)))))⟩)
    · obtain rfl : k = lines.length := by omega
      have HE : DayC.ok ⟨minute, state, lines, line, since, cast, fuel⟩ = DayC.post ⟨minute, state, lines, line, since, cast, fuel⟩ := by simp only [DayC.ok, HP.out, H0.out, Bool.true_and]
      by_cases hst : state = 2
      · subst hst
        by_cases hln : 1 ≤ line ∧ line ≤ lines.length
        · obtain ⟨j, rfl⟩ : ∃ j : Nat, line = (j : Int) + 1 := ⟨(line - 1).toNat, by omega⟩
          have hj : j < lines.length := by omega
          obtain ⟨b, off, rfl, hb, hc⟩ := hp.at_ hj
          obtain ⟨hc0, hc1⟩ := lcells hc hj
          have hin : inB ((j : Int) + 1) 1 lines.length = true := by simp [inB]; omega
          have HF : Hid (DayC.post ⟨minute, 2, lines, (j : Int) + 1, since, cast, fuel⟩ = (!lines[j].done && inB since 0 minute)) := hid (by
            have : ((j : Int) + 1 - 1).toNat = j := by omega
            simp only [DayC.post, if_true, hin, Bool.true_and, doneAt, this, hj, ↓reduceDIte])
          have HE := hid HE
          clear hc hp hln
          go_wp2_with (first | (go_at_call 32; (with_reducible refine (i_inside _ _ _ _ hin _).mono ?_); (rintro e w' ⟨rfl, rfl⟩)) | (go_at_call 32; refine (i_inside _ _ _ _ rfl _).mono ?_; (rintro e w' ⟨rfl, rfl⟩)))
          all_goals
            go_ret
            exact ⟨ret_bool (by rw [HE.out, HF.out]; grind), by (repeat (first | with_reducible exact grew_refl _ | with_reducible assumption | with_reducible refine grew_split ?_ | with_reducible refine grew_mk ?_ | with_reducible refine grew_plus ?_ | with_reducible refine grew_alloc ?_ | with_reducible refine grew_drew ?_ | (with_reducible refine grew_set ?_ (by first | exact Nat.le_refl _ | omega | (simp [go_sem]; done) | (simp [go_sem]; omega)))))⟩
        · have hin : inB line 1 lines.length = false := by simp [inB]; omega
          have HF : Hid (DayC.post ⟨minute, 2, lines, line, since, cast, fuel⟩ = false) := hid (by simp only [DayC.post, if_true, hin, Bool.false_and])
          have HE := hid HE
          clear hp hln
          go_wp2_with (go_at_call 32; refine (i_inside _ _ _ _ hin _).mono ?_; (rintro e w' ⟨rfl, rfl⟩))
          go_ret
          exact ⟨ret_bool (by rw [HE.out, HF.out]), by (repeat (first | with_reducible exact grew_refl _ | with_reducible assumption | with_reducible refine grew_split ?_ | with_reducible refine grew_mk ?_ | with_reducible refine grew_plus ?_ | with_reducible refine grew_alloc ?_ | with_reducible refine grew_drew ?_ | (with_reducible refine grew_set ?_ (by first | exact Nat.le_refl _ | omega | (simp [go_sem]; done) | (simp [go_sem]; omega)))))⟩
      · have HF : Hid (DayC.post ⟨minute, state, lines, line, since, cast, fuel⟩ = (line == 0 && since == 0)) := hid (by simp only [DayC.post, hst, if_false])
        have HE := hid HE
        have hst' : (state != 2) = true := by simp [hst]
        clear hp hst
        go_wp2_with fail
        all_goals
          go_ret
          exact ⟨ret_bool (by rw [HE.out, HF.out]; grind), by (repeat (first | with_reducible exact grew_refl _ | with_reducible assumption | with_reducible refine grew_split ?_ | with_reducible refine grew_mk ?_ | with_reducible refine grew_plus ?_ | with_reducible refine grew_alloc ?_ | with_reducible refine grew_drew ?_ | (with_reducible refine grew_set ?_ (by first | exact Nat.le_refl _ | omega | (simp [go_sem]; done) | (simp [go_sem]; omega)))))⟩
end Go.Proofs.YtcljcbbkbepmjaaDoor
