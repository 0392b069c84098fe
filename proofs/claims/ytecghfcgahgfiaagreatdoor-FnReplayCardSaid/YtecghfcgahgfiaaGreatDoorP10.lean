import Derived.Test.YtecghfcgahgfiaaGreatDoorP9
import Derived.Test.YtecghfcgahgfiaaGreatDoorP6
import Derived.Test.YtecghfcgahgfiaaGreatDoorP4
import Derived.Test.YtecghfcgahgfiaaGreatDoorP3
/- What the functions on logs return, in both packages; the laws' conversions. -/
namespace Go.Proofs.YtecghfcgahgfiaaGreatDoor
open Go.RowKit

def zLog : LogR := ⟨⟨#[]⟩, ⟨#[]⟩, 0⟩
theorem LogR.ext' {a b : LogR} (h1 : a.d = b.d) (h2 : a.p = b.p) (h3 : a.n = b.n) : a = b := by cases a; cases b; simp_all
/-- The encoding of a record, if it has one. -/
def encF (k : Int) (e : RecR) : ByteArray × Bool := if inB k 0 59 && e.ok then (lineV k.toNat e, true) else (⟨#[]⟩, false)
/-- What is recovered of a text. -/
def recovF (s : ByteArray) : LogR × Int × Bool := if 30000 < s.size then (zLog, 0, false) else (⟨s.extract 0 (endOf (opensF (bl s))), ⟨#[]⟩, (opensF (bl s)).length⟩, endOf (opensF (bl s)), true)
set_option maxHeartbeats 1000000 in
theorem i_RecoverLog (s : ByteArray) (w : World) (hs : s.size ≤ 4194304) (hE : Env w) :
    Calls Tryz.prog 26 #[.string s] w fun e' w' => e' = .returned (.tuple #[(recovF s).1.val, .int .i64 (recovF s).2.1, .bool (recovF s).2.2]) ∧ ∃ g, w' = plus w g := by
  have _HE := hid hE
  clear hE
  by_cases hbig : 30000 < s.size
  · have HF : Hid (recovF s = (zLog, 0, false)) := hid (by simp [recovF, hbig])
    have hb : (30000 : Int) < (s.size : Int) := by omega
    go_enter Tryz.func26, Tryz.ntmps26
    go_wp2_with fail
    refine bodyPost_ret (v := .tuple #[zLog.val, .int .i64 0, .bool false]) (by simp [results, Tryz.results26, go_sem, zLog]) rfl ?_
    rw [HF.out]
    exact ⟨rfl, by (repeat (first | with_reducible exact grew_refl _ | with_reducible assumption | with_reducible refine grew_split ?_ | with_reducible refine grew_mk ?_ | with_reducible refine grew_plus ?_ | with_reducible refine grew_alloc ?_ | with_reducible refine grew_drew ?_ | (with_reducible refine grew_set ?_ (by first | exact Nat.le_refl _ | omega | (simp [go_sem]; done) | (simp [go_sem]; omega)))))⟩
  · obtain ⟨L, hL⟩ : ∃ L, L = opensF (bl s) := ⟨_, rfl⟩
    have HF : Hid (recovF s = (⟨s.extract 0 (endOf L), ⟨#[]⟩, L.length⟩, (endOf L : Int), true)) := hid (by simp [recovF, hbig, hL])
    have he := (opensF_end (bl s)).1
    have hb : (s.size : Int) ≤ 30000 := by omega
    have HR := hid (fun W => i_readRecords s W hs)
    rw [← hL, bl_len] at he
    rw [← hL] at HR
    clear hL
    go_enter Tryz.func26, Tryz.ntmps26
    go_wp2_with fail
    (refine (HR.out _ (_HE.out.grew (by (repeat (first | with_reducible exact grew_refl _ | with_reducible assumption | with_reducible refine grew_split ?_ | with_reducible refine grew_mk ?_ | with_reducible refine grew_plus ?_ | with_reducible refine grew_alloc ?_ | with_reducible refine grew_drew ?_ | (with_reducible refine grew_set ?_ (by first | exact Nat.le_refl _ | omega | (simp [go_sem]; done) | (simp [go_sem]; omega)))))))).mono ?_; rintro e w' ⟨⟨A, c, A', c', rfl, -, hO⟩, g1, rfl⟩; have hA := hO.sl intRow_len; have EL := hid (endsL_len L L.length); obtain ⟨b, off, rfl, hlt, hc⟩ := hA.at_ (k := L.length) (by rw [EL.out]; omega); have hcl := icells hc (k := L.length) (by rw [EL.out]; omega); rw [endsL_get, endAt_len] at hcl; clear hc hA hO)
    go_wp2_with fail
    refine bodyPost_ret (v := .tuple #[LogR.val ⟨s.extract 0 (endOf L), ⟨#[]⟩, L.length⟩, .int .i64 (endOf L), .bool true]) (by simp [results, Tryz.results26, go_sem]) rfl ?_
    rw [HF.out]
    exact ⟨rfl, by (repeat (first | with_reducible exact grew_refl _ | with_reducible assumption | with_reducible refine grew_split ?_ | with_reducible refine grew_mk ?_ | with_reducible refine grew_plus ?_ | with_reducible refine grew_alloc ?_ | with_reducible refine grew_drew ?_ | (with_reducible refine grew_set ?_ (by first | exact Nat.le_refl _ | omega | (simp [go_sem]; done) | (simp [go_sem]; omega)))))⟩
/-- A log with nothing pending. -/
def syncF (l : LogR) : LogR × Bool := if l.ok then (⟨l.d ++ l.p, ⟨#[]⟩, l.n⟩, true) else (zLog, false)
set_option maxHeartbeats 1000000 in
theorem s_SyncLog (l : LogR) (w : World) (h1 : l.d.size ≤ 2097152) (h2 : l.p.size ≤ 2097152) (hE : Env w) :
    Calls Tryz.prog 113 #[l.val] w fun e' w' => e' = .returned (.tuple #[(syncF l).1.val, .bool (syncF l).2]) ∧ ∃ g, w' = plus w g := by
  have _HE := hid hE
  clear hE
  cases ho : l.ok
  · have HF : Hid (syncF l = (zLog, false)) := hid (by simp [syncF, ho])
    have HO := hid ho
    clear ho
    go_enter Tryz.func113, Tryz.ntmps113
    go_wp2_with fail
    refine (s_l27Log l _ HO.out _ h1 h2).mono ?_
    (rintro e w' ⟨rfl, gx, rfl⟩)
    go_wp2_with fail
    refine bodyPost_ret (v := .tuple #[zLog.val, .bool false]) (by simp [results, Tryz.results113, go_sem, zLog]) rfl ?_
    rw [HF.out]
    exact ⟨rfl, by (repeat (first | with_reducible exact grew_refl _ | with_reducible assumption | with_reducible refine grew_split ?_ | with_reducible refine grew_mk ?_ | with_reducible refine grew_plus ?_ | with_reducible refine grew_alloc ?_ | with_reducible refine grew_drew ?_ | (with_reducible refine grew_set ?_ (by first | exact Nat.le_refl _ | omega | (simp [go_sem]; done) | (simp [go_sem]; omega)))))⟩
  · have HF : Hid (syncF l = (⟨l.d ++ l.p, ⟨#[]⟩, l.n⟩, true)) := hid (by simp [syncF, ho])
    have HO := hid ho
    clear ho
    go_enter Tryz.func113, Tryz.ntmps113
    go_wp2_with fail
    refine (s_l27Log l _ HO.out _ h1 h2).mono ?_
    (rintro e w' ⟨rfl, gx, rfl⟩)
    go_wp2_with fail
    refine bodyPost_ret (v := .tuple #[LogR.val ⟨l.d ++ l.p, ⟨#[]⟩, l.n⟩, .bool true]) (by simp [results, Tryz.results113, go_sem]) rfl ?_
    rw [HF.out]
    exact ⟨rfl, by (repeat (first | with_reducible exact grew_refl _ | with_reducible assumption | with_reducible refine grew_split ?_ | with_reducible refine grew_mk ?_ | with_reducible refine grew_plus ?_ | with_reducible refine grew_alloc ?_ | with_reducible refine grew_drew ?_ | (with_reducible refine grew_set ?_ (by first | exact Nat.le_refl _ | omega | (simp [go_sem]; done) | (simp [go_sem]; omega)))))⟩
end Go.Proofs.YtecghfcgahgfiaaGreatDoor
/- Logs that came in as arguments. -/
namespace Go.Proofs.YtecghfcgahgfiaaGreatDoor
open Go.ChangeShapes Go.WideShapes Go.ChangeAt Go.RowKit Go.Deep Go.Joins
open Go.ChangeMaps (open_string shut_string)

theorem env_of {W : World} (hT : Tab W) (h : W.ShapedOpen Tryz.prog) : Env W := ⟨hT, Tryz.laysM145.s1_3 W h⟩
end Go.Proofs.YtecghfcgahgfiaaGreatDoor
/- Survey days: their values; which are good, in both packages; whether the cast is good. Conditions: lengths that an int holds. -/
namespace Go.Proofs.YtecghfcgahgfiaaGreatDoor
open Go.RowKit

structure LineR where
  minutes : Int
  done : Bool
def LineR.row (p : LineR) : List Value := [.int .i64 p.minutes, .bool p.done]
structure DayC where
  minute : Int
  state : Int
  lines : List LineR
  line : Int
  since : Int
  cast : Int
  fuel : Int
structure DayV where
  core : DayC
  A : Option Addr
  c : Nat
def DayV.row (v : DayV) : List Value := [.int .i64 v.core.minute, .int .i64 v.core.state, .slice v.A v.core.lines.length v.c, .int .i64 v.core.line, .int .i64 v.core.since, .int .i64 v.core.cast, .int .i64 v.core.fuel]
abbrev DayV.val (v : DayV) : Value := .agg #[.int .i64 v.core.minute, .int .i64 v.core.state, .slice v.A v.core.lines.length v.c, .int .i64 v.core.line, .int .i64 v.core.since, .int .i64 v.core.cast, .int .i64 v.core.fuel]
/-- The day's lines lie in memory as they should. -/
structure DayV.At (w : World) (v : DayV) : Prop where
  ln : Sl w 2 LineR.row v.A v.core.lines
  len : v.core.lines.length ≤ maxLen
theorem DayV.At.grew {w w' : World} {v : DayV} (h : v.At w) (hg : ∃ g, w' = Go.Proofs.YtecghfcgahgfiaaGreatDoor.plus w g) : v.At w' := ⟨h.ln.grew hg, h.len⟩
theorem DayV.At.alloc {w : World} {v : DayV} (h : v.At w) (o : Obj) : v.At (w.alloc o) := ⟨h.ln.alloc o, h.len⟩
theorem lcells {w : World} {b off : Nat} {l : List LineR} (hc : ∀ i (hi : i < l.length) j u, (LineR.row l[i])[j]? = some u → w.cell? ⟨b, off + i * 2 + j, none⟩ = some u) {k : Nat} (hk : k < l.length) :
    w.cell? ⟨b, off + k * 2, none⟩ = some (.int .i64 l[k].minutes) ∧ w.cell? ⟨b, off + k * 2 + 1, none⟩ = some (.bool l[k].done) :=
  ⟨hc k hk 0 _ rfl, hc k hk 1 _ rfl⟩
def lnStep (l : List LineR) (i : Nat) : Bool := if h : i < l.length then inB l[i].minutes 1 300 else true
def doneAt (l : List LineR) (j : Nat) : Bool := if h : j < l.length then l[j].done else false
def DayC.pre (v : DayC) : Bool := inB v.minute 0 1440 && inB v.state 0 2 && inB v.lines.length 1 8 && inB v.cast (-1) v.minute && inB v.fuel 0 9999
def DayC.post (v : DayC) : Bool := if v.state = 2 then inB v.line 1 v.lines.length && !doneAt v.lines (v.line - 1).toNat && inB v.since 0 v.minute else v.line == 0 && v.since == 0
def DayC.ok (v : DayC) : Bool := v.pre && allUpto (lnStep v.lines) v.lines.length && v.post
theorem DayC.no_pre {v : DayC} (h : v.pre = false) : v.ok = false := by simp [DayC.ok, h]
theorem DayC.no_line {v : DayC} {k : Nat} (hk : k < v.lines.length) (h : lnStep v.lines k = false) : v.ok = false := by
  rw [DayC.ok, allUpto_no hk h]; simp

set_option maxHeartbeats 2000000 in
theorem s_l25Good (v : DayV) (o : Bool) (ho : v.core.ok = o) (w : World) (hv : v.At w) :
    Calls Tryz.prog 75 #[v.val] w fun e w' => e = .returned (.bool o) ∧ ∃ g, w' = plus w g := by
  subst ho
  obtain ⟨⟨minute, state, lines, line, since, cast, fuel⟩, A, c⟩ := v
  have hl := hv.len
  have hp := hv.ln
  simp only at hl hp ⊢
  unfold maxLen at hl
  clear hv
  cases hpre : DayC.pre ⟨minute, state, lines, line, since, cast, fuel⟩
  · have HH := hid (DayC.no_pre hpre)
    have HP := hid hpre
    have HS := hid hp
    clear hpre hp
    go_enter Tryz.func75, Tryz.ntmps75
    go_wp2_with (go_at_call 99; refine (s_l1In _ _ _ _ rfl _).mono ?_; (rintro e w' ⟨rfl, rfl⟩))
    all_goals first
      | (go_ret
         exact ⟨ret_bool HH.out.symm, by (repeat (first | with_reducible exact grew_refl _ | with_reducible assumption | with_reducible refine grew_split ?_ | with_reducible refine grew_mk ?_ | with_reducible refine grew_plus ?_ | with_reducible refine grew_alloc ?_ | with_reducible refine grew_drew ?_ | (with_reducible refine grew_set ?_ (by first | exact Nat.le_refl _ | omega | (simp [go_sem]; done) | (simp [go_sem]; omega)))))⟩)
      | (exfalso; have h := HP.out; simp only [DayC.pre] at h; grind)
  have HP := hid hpre
  simp only [DayC.pre, Bool.and_eq_true] at hpre
  obtain ⟨⟨⟨⟨h1, h2⟩, h3⟩, h4⟩, h5⟩ := hpre
  have hN : ∀ k, k < lines.length → lnStep lines k = false → DayC.ok ⟨minute, state, lines, line, since, cast, fuel⟩ = false := fun k a b => DayC.no_line (v := ⟨minute, state, lines, line, since, cast, fuel⟩) a b
  have HN := hid hN
  clear hN
  go_enter Tryz.func75, Tryz.ntmps75
  go_wp2_with (go_at_call 99; refine (s_l1In _ _ _ _ (by assumption) _).mono ?_; (rintro e w' ⟨rfl, rfl⟩))
  clear h1 h2 h3 h4 h5
  go_loopw [3] (fun i wr => ∃ k : Nat, k ≤ lines.length ∧ i = .int .i64 k ∧ allUpto (lnStep lines) k = true ∧ (∃ g, wr = plus (w.alloc (.cells #[.int .i64 minute, .int .i64 state, .slice A lines.length c, .int .i64 line, .int .i64 since, .int .i64 cast, .int .i64 fuel] 26)) g)) (fun i _ => lines.length - (intOf i).toNat)
  case atStart => exact ⟨0, Nat.zero_le _, rfl, rfl, by (repeat (first | with_reducible exact grew_refl _ | with_reducible assumption | with_reducible refine grew_split ?_ | with_reducible refine grew_mk ?_ | with_reducible refine grew_plus ?_ | with_reducible refine grew_alloc ?_ | with_reducible refine grew_drew ?_ | (with_reducible refine grew_set ?_ (by first | exact Nat.le_refl _ | omega | (simp [go_sem]; done) | (simp [go_sem]; omega)))))⟩
  case round =>
    obtain ⟨k, hk, rfl, h0, g, rfl⟩ := hrel
    have H0 := hid h0
    clear h0
    by_cases hlt : k < lines.length
    · obtain ⟨b, off, rfl, hb, hc⟩ := hp.at_ hlt
      obtain ⟨hc0, hc1⟩ := lcells hc hlt
      have HF : Hid (lnStep lines k = inB lines[k].minutes 1 300) := hid (by simp [lnStep, hlt])
      clear hc hp
      go_wp2_with (go_at_call 99; refine (s_l1In _ _ _ _ rfl _).mono ?_; (rintro e w' ⟨rfl, rfl⟩))
      all_goals first
        | (go_roundw
           case rel => exact ⟨k + 1, by omega, by go_num, allUpto_step H0.out (by rw [HF.out]; grind), by (repeat (first | with_reducible exact grew_refl _ | with_reducible assumption | with_reducible refine grew_split ?_ | with_reducible refine grew_mk ?_ | with_reducible refine grew_plus ?_ | with_reducible refine grew_alloc ?_ | with_reducible refine grew_drew ?_ | (with_reducible refine grew_set ?_ (by first | exact Nat.le_refl _ | omega | (simp [go_sem]; done) | (simp [go_sem]; omega)))))⟩
           case measure => simp [intOf]; omega)
        | (go_ret
           exact ⟨ret_bool (HN.out k hlt (by rw [HF.out]; grind)).symm, by (repeat (first | with_reducible exact grew_refl _ | with_reducible assumption | with_reducible refine grew_split ?_ | with_reducible refine grew_mk ?_ | with_reducible refine grew_plus ?_ | with_reducible refine grew_alloc ?_ | with_reducible refine grew_drew ?_ | (with_reducible refine grew_set ?_ (by first | exact Nat.le_refl _ | omega | (simp [go_sem]; done) | (simp [go_sem]; omega)))))⟩)
    · obtain rfl : k = lines.length := by omega
      have HE : DayC.ok ⟨minute, state, lines, line, since, cast, fuel⟩ = DayC.post ⟨minute, state, lines, line, since, cast, fuel⟩ := by simp only [DayC.ok, HP.out, H0.out, Bool.true_and]
      by_cases hst : state = 2
      · subst hst
        by_cases hln : 1 ≤ line ∧ line ≤ lines.length
        · obtain ⟨j, rfl⟩ : ∃ j : Nat, line = (j : Int) + 1 := ⟨(line - 1).toNat, by omega⟩
          have hj : j < lines.length := by omega
          obtain ⟨b, off, rfl, hb, hc⟩ := hp.at_ hj
          obtain ⟨hc0, hc1⟩ := lcells hc hj
          have hin : inB ((j : Int) + 1) 1 lines.length = true := by simp [inB]; omega
          have HF : Hid (DayC.post ⟨minute, 2, lines, (j : Int) + 1, since, cast, fuel⟩ = (!lines[j].done && inB since 0 minute)) := hid (by
            have : ((j : Int) + 1 - 1).toNat = j := by omega
            simp only [DayC.post, if_true, hin, Bool.true_and, doneAt, this, hj, ↓reduceDIte])
          have HE := hid HE
          clear hc hp hln
          go_wp2_with (first | (go_at_call 99; (with_reducible refine (s_l1In _ _ _ _ hin _).mono ?_); (rintro e w' ⟨rfl, rfl⟩)) | (go_at_call 99; refine (s_l1In _ _ _ _ rfl _).mono ?_; (rintro e w' ⟨rfl, rfl⟩)))
          all_goals
            go_ret
            exact ⟨ret_bool (by rw [HE.out, HF.out]; grind), by (repeat (first | with_reducible exact grew_refl _ | with_reducible assumption | with_reducible refine grew_split ?_ | with_reducible refine grew_mk ?_ | with_reducible refine grew_plus ?_ | with_reducible refine grew_alloc ?_ | with_reducible refine grew_drew ?_ | (with_reducible refine grew_set ?_ (by first | exact Nat.le_refl _ | omega | (simp [go_sem]; done) | (simp [go_sem]; omega)))))⟩
        · have hin : inB line 1 lines.length = false := by simp [inB]; omega
          have HF : Hid (DayC.post ⟨minute, 2, lines, line, since, cast, fuel⟩ = false) := hid (by simp only [DayC.post, if_true, hin, Bool.false_and])
          have HE := hid HE
          clear hp hln
          go_wp2_with (go_at_call 99; refine (s_l1In _ _ _ _ hin _).mono ?_; (rintro e w' ⟨rfl, rfl⟩))
          go_ret
          exact ⟨ret_bool (by rw [HE.out, HF.out]), by (repeat (first | with_reducible exact grew_refl _ | with_reducible assumption | with_reducible refine grew_split ?_ | with_reducible refine grew_mk ?_ | with_reducible refine grew_plus ?_ | with_reducible refine grew_alloc ?_ | with_reducible refine grew_drew ?_ | (with_reducible refine grew_set ?_ (by first | exact Nat.le_refl _ | omega | (simp [go_sem]; done) | (simp [go_sem]; omega)))))⟩
      · have HF : Hid (DayC.post ⟨minute, state, lines, line, since, cast, fuel⟩ = (line == 0 && since == 0)) := hid (by simp only [DayC.post, hst, if_false])
        have HE := hid HE
        have hst' : (state != 2) = true := by simp [hst]
        clear hp hst
        go_wp2_with fail
        all_goals
          go_ret
          exact ⟨ret_bool (by rw [HE.out, HF.out]; grind), by (repeat (first | with_reducible exact grew_refl _ | with_reducible assumption | with_reducible refine grew_split ?_ | with_reducible refine grew_mk ?_ | with_reducible refine grew_plus ?_ | with_reducible refine grew_alloc ?_ | with_reducible refine grew_drew ?_ | (with_reducible refine grew_set ?_ (by first | exact Nat.le_refl _ | omega | (simp [go_sem]; done) | (simp [go_sem]; omega)))))⟩
set_option maxHeartbeats 2000000 in
theorem i_IsSurveyDay (v : DayV) (o : Bool) (ho : v.core.ok = o) (w : World) (hv : v.At w) :
    Calls Tryz.prog 42 #[v.val] w fun e w' => e = .returned (.bool o) ∧ ∃ g, w' = plus w g := by
  subst ho
  obtain ⟨⟨minute, state, lines, line, since, cast, fuel⟩, A, c⟩ := v
  have hl := hv.len
  have hp := hv.ln
  simp only at hl hp ⊢
  unfold maxLen at hl
  clear hv
  cases hpre : DayC.pre ⟨minute, state, lines, line, since, cast, fuel⟩
  · have HH := hid (DayC.no_pre hpre)
    have HP := hid hpre
    have HS := hid hp
    clear hpre hp
    go_enter Tryz.func42, Tryz.ntmps42
    go_wp2_with (go_at_call 58; refine (i_inside _ _ _ _ rfl _).mono ?_; (rintro e w' ⟨rfl, rfl⟩))
    all_goals first
      | (go_ret
         exact ⟨ret_bool HH.out.symm, by (repeat (first | with_reducible exact grew_refl _ | with_reducible assumption | with_reducible refine grew_split ?_ | with_reducible refine grew_mk ?_ | with_reducible refine grew_plus ?_ | with_reducible refine grew_alloc ?_ | with_reducible refine grew_drew ?_ | (with_reducible refine grew_set ?_ (by first | exact Nat.le_refl _ | omega | (simp [go_sem]; done) | (simp [go_sem]; omega)))))⟩)
      | (exfalso; have h := HP.out; simp only [DayC.pre] at h; grind)
  have HP := hid hpre
  simp only [DayC.pre, Bool.and_eq_true] at hpre
  obtain ⟨⟨⟨⟨h1, h2⟩, h3⟩, h4⟩, h5⟩ := hpre
  have hN : ∀ k, k < lines.length → lnStep lines k = false → DayC.ok ⟨minute, state, lines, line, since, cast, fuel⟩ = false := fun k a b => DayC.no_line (v := ⟨minute, state, lines, line, since, cast, fuel⟩) a b
  have HN := hid hN
  clear hN
  go_enter Tryz.func42, Tryz.ntmps42
  go_wp2_with (go_at_call 58; refine (i_inside _ _ _ _ (by assumption) _).mono ?_; (rintro e w' ⟨rfl, rfl⟩))
  clear h1 h2 h3 h4 h5
  go_loopw [39, 4] (fun i _ wr => ∃ k : Nat, k ≤ lines.length ∧ i = .int .i64 k ∧ allUpto (lnStep lines) k = true ∧ (∃ g, wr = plus (w.alloc (.cells #[.int .i64 minute, .int .i64 state, .slice A lines.length c, .int .i64 line, .int .i64 since, .int .i64 cast, .int .i64 fuel] 26)) g)) (fun i _ _ => lines.length - (intOf i).toNat)
  case atStart => exact ⟨0, Nat.zero_le _, rfl, rfl, by (repeat (first | with_reducible exact grew_refl _ | with_reducible assumption | with_reducible refine grew_split ?_ | with_reducible refine grew_mk ?_ | with_reducible refine grew_plus ?_ | with_reducible refine grew_alloc ?_ | with_reducible refine grew_drew ?_ | (with_reducible refine grew_set ?_ (by first | exact Nat.le_refl _ | omega | (simp [go_sem]; done) | (simp [go_sem]; omega)))))⟩
  case round =>
    obtain ⟨k, hk, rfl, h0, g, rfl⟩ := hrel
    have H0 := hid h0
    clear h0
    by_cases hlt : k < lines.length
    · obtain ⟨b, off, rfl, hb, hc⟩ := hp.at_ hlt
      obtain ⟨hc0, hc1⟩ := lcells hc hlt
      have HF : Hid (lnStep lines k = inB lines[k].minutes 1 300) := hid (by simp [lnStep, hlt])
      clear hc hp
      go_wp2_with (go_at_call 58; refine (i_inside _ _ _ _ rfl _).mono ?_; (rintro e w' ⟨rfl, rfl⟩))
      all_goals first
        | (go_roundw
           case rel => exact ⟨k + 1, by omega, by go_num, allUpto_step H0.out (by rw [HF.out]; grind), by (repeat (first | with_reducible exact grew_refl _ | with_reducible assumption | with_reducible refine grew_split ?_ | with_reducible refine grew_mk ?_ | with_reducible refine grew_plus ?_ | with_reducible refine grew_alloc ?_ | with_reducible refine grew_drew ?_ | (with_reducible refine grew_set ?_ (by first | exact Nat.le_refl _ | omega | (simp [go_sem]; done) | (simp [go_sem]; omega)))))⟩
           case measure => simp [intOf]; omega)
        | (go_ret
           exact ⟨ret_bool (HN.out k hlt (by rw [HF.out]; grind)).symm, by (repeat (first | with_reducible exact grew_refl _ | with_reducible assumption | with_reducible refine grew_split ?_ | with_reducible refine grew_mk ?_ | with_reducible refine grew_plus ?_ | with_reducible refine grew_alloc ?_ | with_reducible refine grew_drew ?_ | (with_reducible refine grew_set ?_ (by first | exact Nat.le_refl _ | omega | (simp [go_sem]; done) | (simp [go_sem]; omega)))))⟩)
    · obtain rfl : k = lines.length := by omega
      have HE : DayC.ok ⟨minute, state, lines, line, since, cast, fuel⟩ = DayC.post ⟨minute, state, lines, line, since, cast, fuel⟩ := by simp only [DayC.ok, HP.out, H0.out, Bool.true_and]
      by_cases hst : state = 2
      · subst hst
        by_cases hln : 1 ≤ line ∧ line ≤ lines.length
        · obtain ⟨j, rfl⟩ : ∃ j : Nat, line = (j : Int) + 1 := ⟨(line - 1).toNat, by omega⟩
          have hj : j < lines.length := by omega
          obtain ⟨b, off, rfl, hb, hc⟩ := hp.at_ hj
          obtain ⟨hc0, hc1⟩ := lcells hc hj
          have hin : inB ((j : Int) + 1) 1 lines.length = true := by simp [inB]; omega
          have HF : Hid (DayC.post ⟨minute, 2, lines, (j : Int) + 1, since, cast, fuel⟩ = (!lines[j].done && inB since 0 minute)) := hid (by
            have : ((j : Int) + 1 - 1).toNat = j := by omega
            simp only [DayC.post, if_true, hin, Bool.true_and, doneAt, this, hj, ↓reduceDIte])
          have HE := hid HE
          clear hc hp hln
          go_wp2_with (first | (go_at_call 58; (with_reducible refine (i_inside _ _ _ _ hin _).mono ?_); (rintro e w' ⟨rfl, rfl⟩)) | (go_at_call 58; refine (i_inside _ _ _ _ rfl _).mono ?_; (rintro e w' ⟨rfl, rfl⟩)))
          all_goals
            go_ret
            exact ⟨ret_bool (by rw [HE.out, HF.out]; grind), by (repeat (first | with_reducible exact grew_refl _ | with_reducible assumption | with_reducible refine grew_split ?_ | with_reducible refine grew_mk ?_ | with_reducible refine grew_plus ?_ | with_reducible refine grew_alloc ?_ | with_reducible refine grew_drew ?_ | (with_reducible refine grew_set ?_ (by first | exact Nat.le_refl _ | omega | (simp [go_sem]; done) | (simp [go_sem]; omega)))))⟩
        · have hin : inB line 1 lines.length = false := by simp [inB]; omega
          have HF : Hid (DayC.post ⟨minute, 2, lines, line, since, cast, fuel⟩ = false) := hid (by simp only [DayC.post, if_true, hin, Bool.false_and])
          have HE := hid HE
          clear hp hln
          go_wp2_with (go_at_call 58; refine (i_inside _ _ _ _ hin _).mono ?_; (rintro e w' ⟨rfl, rfl⟩))
          go_ret
          exact ⟨ret_bool (by rw [HE.out, HF.out]), by (repeat (first | with_reducible exact grew_refl _ | with_reducible assumption | with_reducible refine grew_split ?_ | with_reducible refine grew_mk ?_ | with_reducible refine grew_plus ?_ | with_reducible refine grew_alloc ?_ | with_reducible refine grew_drew ?_ | (with_reducible refine grew_set ?_ (by first | exact Nat.le_refl _ | omega | (simp [go_sem]; done) | (simp [go_sem]; omega)))))⟩
      · have HF : Hid (DayC.post ⟨minute, state, lines, line, since, cast, fuel⟩ = (line == 0 && since == 0)) := hid (by simp only [DayC.post, hst, if_false])
        have HE := hid HE
        have hst' : (state != 2) = true := by simp [hst]
        clear hp hst
        go_wp2_with fail
        all_goals
          go_ret
          exact ⟨ret_bool (by rw [HE.out, HF.out]; grind), by (repeat (first | with_reducible exact grew_refl _ | with_reducible assumption | with_reducible refine grew_split ?_ | with_reducible refine grew_mk ?_ | with_reducible refine grew_plus ?_ | with_reducible refine grew_alloc ?_ | with_reducible refine grew_drew ?_ | (with_reducible refine grew_set ?_ (by first | exact Nat.le_refl _ | omega | (simp [go_sem]; done) | (simp [go_sem]; omega)))))⟩
end Go.Proofs.YtecghfcgahgfiaaGreatDoor
