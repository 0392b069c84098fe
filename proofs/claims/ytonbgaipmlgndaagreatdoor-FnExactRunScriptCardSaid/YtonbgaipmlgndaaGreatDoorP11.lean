import Derived.Test.YtonbgaipmlgndaaGreatDoorP10
import Derived.Test.YtonbgaipmlgndaaGreatDoorProg
import Derived.Test.YtonbgaipmlgndaaGreatDoorP1
/- The laws' conversions of days: sizes, copies, comparison of equal ones. -/
namespace Go.Proofs.YtonbgaipmlgndaaGreatDoor
open Go.RowKit

set_option maxHeartbeats 400000 in
theorem l_eqDayLine (p : LineR) (w : World) :
    Calls Tryz.prog 134 #[.agg #[.int .i64 p.minutes, .bool p.done], .agg #[.int .i64 p.minutes, .bool p.done]] w fun e' w' => e' = .returned (.bool true) ∧ ∃ g, w' = plus w g := by
  go_enter Tryz.func134, Tryz.ntmps134
  go_wp2
  go_ret
  exact ⟨rfl, by (repeat (first | with_reducible exact grew_refl _ | with_reducible assumption | with_reducible refine grew_split ?_ | with_reducible refine grew_mk ?_ | with_reducible refine grew_plus ?_ | with_reducible refine grew_alloc ?_ | with_reducible refine grew_drew ?_ | (with_reducible refine grew_set ?_ (by first | exact Nat.le_refl _ | omega | (simp [go_sem]; done) | (simp [go_sem]; omega)))))⟩
set_option maxHeartbeats 1000000 in
theorem l_eqDayLineS (l : List LineR) (A B : Option Addr) (c d : Nat) (w : World) (hA : Sl w 2 LineR.row A l) (hB : Sl w 2 LineR.row B l) (hl : l.length ≤ maxLen) :
    Calls Tryz.prog 101 #[.slice A l.length c, .slice B l.length d] w fun e' w' => e' = .returned (.bool true) ∧ ∃ g, w' = plus w g := by
  unfold maxLen at hl
  go_enter Tryz.func101, Tryz.ntmps101
  go_wp2_with fail
  go_loopw [5] (fun i wr => ∃ k : Nat, k ≤ l.length ∧ i = .int .i64 k ∧ (∃ g, wr = plus w g)) (fun i _ => l.length - (intOf i).toNat)
  case atStart => exact ⟨0, Nat.zero_le _, rfl, _, plus_refl _⟩
  case round =>
    obtain ⟨k, hk, rfl, g, rfl⟩ := hrel
    by_cases hlt : k < l.length
    · obtain ⟨b, off, rfl, hb, hc⟩ := hA.at_ hlt
      obtain ⟨b', off', rfl, hb', hc'⟩ := hB.at_ hlt
      obtain ⟨hc0, hc1⟩ := lcells hc hlt
      obtain ⟨hd0, hd1⟩ := lcells hc' hlt
      clear hc hA hc' hB
      go_wp2_with fail
      (refine wp_region_calm (by kernel_rfl) (by kernel_rfl) ?_; (repeat' (first | go_big_quiet_step ((go_at_call 134; first | exact calm_of (l_eqDayLine l[k] _) | exact calm_add (l_eqDayLine l[k] _))) | (refine wpQuiet_step (fun K hK => ?_); go_simp; go_ite <;> go_simp <;> (first | (refine hK _ ?_; clear hK K) | (apply Exists.intro; refine ⟨fun _ => ?_, hK _ ?_⟩; ((go_at_call 134; first | exact calm_of (l_eqDayLine l[k] _) | exact calm_add (l_eqDayLine l[k] _))); clear hK K))))); all_goals (refine wpQuiet_nil ?_; intro _ hw'; obtain ⟨gq, hw''⟩ := hw'; subst hw''))
      go_wp2
      go_roundw
      case rel => exact ⟨k + 1, by omega, by go_num, by (repeat (first | with_reducible exact grew_refl _ | with_reducible assumption | with_reducible refine grew_split ?_ | with_reducible refine grew_mk ?_ | with_reducible refine grew_plus ?_ | with_reducible refine grew_alloc ?_ | with_reducible refine grew_drew ?_ | (with_reducible refine grew_set ?_ (by first | exact Nat.le_refl _ | omega | (simp [go_sem]; done) | (simp [go_sem]; omega)))))⟩
      case measure => simp [intOf]; omega
    · go_wp2
      go_ret
      exact ⟨rfl, by (repeat (first | with_reducible exact grew_refl _ | with_reducible assumption | with_reducible refine grew_split ?_ | with_reducible refine grew_mk ?_ | with_reducible refine grew_plus ?_ | with_reducible refine grew_alloc ?_ | with_reducible refine grew_drew ?_ | (with_reducible refine grew_set ?_ (by first | exact Nat.le_refl _ | omega | (simp [go_sem]; done) | (simp [go_sem]; omega)))))⟩
set_option maxHeartbeats 1000000 in
theorem l_eqSurveyDay (v : DayC) (A B : Option Addr) (c d : Nat) (w : World) (hv : DayV.At w ⟨v, A, c⟩) (hu : DayV.At w ⟨v, B, d⟩) :
    Calls Tryz.prog 55 #[DayV.val ⟨v, A, c⟩, DayV.val ⟨v, B, d⟩] w fun e w' => e = .returned (.bool true) ∧ ∃ g, w' = plus w g := by
  obtain ⟨minute, state, lines, line, since, cast, fuel⟩ := v
  have hl := hv.len
  have HP := hid hv.ln
  have HQ := hid hu.ln
  simp only at hl HP HQ
  clear hv hu
  go_enter Tryz.func55, Tryz.ntmps55
  go_wp2_with fail
  refine (l_eqDayLineS lines _ _ _ _ _ (HP.out.grew (by (repeat (first | with_reducible exact grew_refl _ | with_reducible assumption | with_reducible refine grew_split ?_ | with_reducible refine grew_mk ?_ | with_reducible refine grew_plus ?_ | with_reducible refine grew_alloc ?_ | with_reducible refine grew_drew ?_ | (with_reducible refine grew_set ?_ (by first | exact Nat.le_refl _ | omega | (simp [go_sem]; done) | (simp [go_sem]; omega))))))) (HQ.out.grew (by (repeat (first | with_reducible exact grew_refl _ | with_reducible assumption | with_reducible refine grew_split ?_ | with_reducible refine grew_mk ?_ | with_reducible refine grew_plus ?_ | with_reducible refine grew_alloc ?_ | with_reducible refine grew_drew ?_ | (with_reducible refine grew_set ?_ (by first | exact Nat.le_refl _ | omega | (simp [go_sem]; done) | (simp [go_sem]; omega))))))) hl).mono ?_
  (rintro e w' ⟨rfl, gx, rfl⟩)
  go_wp2_with fail
  go_ret
  exact ⟨rfl, by (repeat (first | with_reducible exact grew_refl _ | with_reducible assumption | with_reducible refine grew_split ?_ | with_reducible refine grew_mk ?_ | with_reducible refine grew_plus ?_ | with_reducible refine grew_alloc ?_ | with_reducible refine grew_drew ?_ | (with_reducible refine grew_set ?_ (by first | exact Nat.le_refl _ | omega | (simp [go_sem]; done) | (simp [go_sem]; omega)))))⟩
set_option maxHeartbeats 400000 in
theorem l_szDayLineS (A : Option Addr) (m c : Nat) (n : Int) (w : World) (hl : m ≤ maxLen) (h0 : 0 ≤ n) (h1 : n ≤ 1048576) :
    Calls Tryz.prog 82 #[.slice A m c, .int .i64 n] w fun e' w' => (∃ k, e' = .returned (.int .i64 k) ∧ -1 ≤ k ∧ k ≤ n ∧ (0 ≤ k → m ≤ 1048576)) ∧ ∃ g, w' = plus w g := by
  unfold maxLen at hl
  go_enter Tryz.func82, Tryz.ntmps82
  go_wp2
  all_goals
    go_ret
    exact ⟨⟨_, rfl, by omega, by omega, by omega⟩, by (repeat (first | with_reducible exact grew_refl _ | with_reducible assumption | with_reducible refine grew_split ?_ | with_reducible refine grew_mk ?_ | with_reducible refine grew_plus ?_ | with_reducible refine grew_alloc ?_ | with_reducible refine grew_drew ?_ | (with_reducible refine grew_set ?_ (by first | exact Nat.le_refl _ | omega | (simp [go_sem]; done) | (simp [go_sem]; omega)))))⟩
set_option maxHeartbeats 1000000 in
theorem l_szSurveyDay (v : DayV) (n : Int) (w : World) (hv : v.At w) (h0 : 0 ≤ n) (h1 : n ≤ 1048576) :
    Calls Tryz.prog 44 #[v.val, .int .i64 n] w fun e' w' => (∃ k, e' = .returned (.int .i64 k) ∧ -1 ≤ k ∧ k ≤ n ∧ (0 ≤ k → v.core.lines.length ≤ 1048576)) ∧ ∃ g, w' = plus w g := by
  obtain ⟨⟨minute, state, lines, line, since, cast, fuel⟩, A, c⟩ := v
  have hl := hv.len
  simp only at hl ⊢
  clear hv
  go_enter Tryz.func44, Tryz.ntmps44
  go_wp2_with (go_at_call 82; refine (l_szDayLineS _ _ _ _ _ hl (by omega) (by omega)).mono ?_; rintro e w' ⟨⟨kz, rfl, hkz, hkz1, hkz2⟩, gx, rfl⟩)
  all_goals
    go_ret
    exact ⟨⟨_, rfl, by omega, by omega, by omega⟩, by (repeat (first | with_reducible exact grew_refl _ | with_reducible assumption | with_reducible refine grew_split ?_ | with_reducible refine grew_mk ?_ | with_reducible refine grew_plus ?_ | with_reducible refine grew_alloc ?_ | with_reducible refine grew_drew ?_ | (with_reducible refine grew_set ?_ (by first | exact Nat.le_refl _ | omega | (simp [go_sem]; done) | (simp [go_sem]; omega)))))⟩
set_option maxHeartbeats 400000 in
theorem l_toDayLine (p : LineR) (w : World) :
    Calls Tryz.prog 124 #[.agg #[.int .i64 p.minutes, .bool p.done]] w fun e' w' => e' = .returned (.agg #[.int .i64 p.minutes, .bool p.done]) ∧ ∃ g, w' = plus w g := by
  go_enter Tryz.func124, Tryz.ntmps124
  go_wp2
  refine bodyPost_ret (v := .agg #[.int .i64 p.minutes, .bool p.done]) (by simp [results, Tryz.results124, go_sem]) rfl ⟨rfl, ?_⟩
  (repeat (first | with_reducible exact grew_refl _ | with_reducible assumption | with_reducible refine grew_split ?_ | with_reducible refine grew_mk ?_ | with_reducible refine grew_plus ?_ | with_reducible refine grew_alloc ?_ | with_reducible refine grew_drew ?_ | (with_reducible refine grew_set ?_ (by first | exact Nat.le_refl _ | omega | (simp [go_sem]; done) | (simp [go_sem]; omega)))))
theorem dayline_info : (Tryz.prog.info? 102).map (fun i => (i.zero, i.size, i.bytes)) = some (some (.agg #[.int .i64 0, .bool false]), 2, 16) := by kernel_rfl
set_option maxHeartbeats 1000000 in
theorem l_toDayLineS (l : List LineR) (A : Option Addr) (c : Nat) (w : World) (hA : Sl w 2 LineR.row A l) (hl : l.length * 16 ≤ 140737488355328) :
    Calls Tryz.prog 92 #[.slice A l.length c] w fun e' w' => (∃ g cs, e' = .returned (.slice (some ⟨g, 0, none⟩) l.length l.length) ∧ w.heap.size ≤ g ∧ Blk w' g 102 cs ∧ cs.size = l.length * 2 ∧ Filled cs 2 LineR.row l l.length) ∧ ∃ g, w' = plus w g := by
  obtain ⟨i0, hi0, hz0, hz1, hz2⟩ := info_parts dayline_info
  have hmk : ∀ W : World, (Instr.makeSlice 39 (.int .i64 (l.length : Int)) (.int .i64 (l.length : Int))).run Tryz.prog W = .ok (.slice (some ⟨W.heap.size, 0, none⟩) l.length l.length) (W.alloc (.cells (madeCells _ (l.length * 2)) 102)) := fun W => by
    rcases run_make_rowN (P := Tryz.prog) 39 102 i0 _ Tryz.underlying39 hi0 hz0 l.length (by rw [hz2]; omega) W with h | h
    · rw [hz1] at h; exact h
    · rw [hz2] at h; cases h
  go_enter Tryz.func92, Tryz.ntmps92
  go_wp2_with fail
  go_loopw [4] (fun i wr => ∃ (k : Nat) (cs : Array Value), k ≤ l.length ∧ i = .int .i64 k ∧ Blk wr w.heap.size 102 cs ∧ cs.size = l.length * 2 ∧ Filled cs 2 LineR.row l k ∧ ∃ g, wr = plus w g) (fun i _ => l.length - (intOf i).toNat)
  case atStart => exact ⟨0, _, Nat.zero_le _, rfl, Blk.new _ _ _, size_madeCells _ _, Filled.zero _ _ _ _, by (repeat (first | with_reducible exact grew_refl _ | with_reducible assumption | with_reducible refine grew_split ?_ | with_reducible refine grew_mk ?_ | with_reducible refine grew_plus ?_ | with_reducible refine grew_alloc ?_ | with_reducible refine grew_drew ?_ | (with_reducible refine grew_set ?_ (by first | exact Nat.le_refl _ | omega | (simp [go_sem]; done) | (simp [go_sem]; omega)))))⟩
  case round =>
    obtain ⟨k, cs, hk, rfl, hB, hsz, hF, hg⟩ := hrel
    have hAr : Sl wr 2 LineR.row A l := hA.below (below_of_grew hg)
    have HG := hid hg
    have HS := hid hsz
    have HF := hid hF
    have HB := hid hB
    clear hg hF
    by_cases hlt : k < l.length
    · obtain ⟨b, off, rfl, hb, hc⟩ := hAr.at_ hlt
      obtain ⟨hc0, hc1⟩ := lcells hc hlt
      have hG := hB.lt
      obtain ⟨⟨_, hz0⟩, ⟨_, hz1⟩, hf0, hf1⟩ := hB.some2 (k * 2) (by omega)
      clear hc hAr hA hB hsz
      go_wp2_with (go_at_call 124; refine (l_toDayLine l[k] _).mono ?_; (rintro e w' ⟨rfl, gx, rfl⟩))
      go_roundw
      case rel =>
        have h1 := HF.out.step hlt (fun _ _ => rfl) (by rw [HS.out]; omega)
        have h2 := (HB.out.put2 (k * 2) (.int .i64 l[k].minutes) (.bool l[k].done)).plus gx
        have HG := HG.out
        exact ⟨k + 1, _, by omega, by go_num, h2, by rw [size_put]; exact HS.out, h1, by (repeat (first | with_reducible exact grew_refl _ | with_reducible assumption | with_reducible refine grew_split ?_ | with_reducible refine grew_mk ?_ | with_reducible refine grew_plus ?_ | with_reducible refine grew_alloc ?_ | with_reducible refine grew_drew ?_ | (with_reducible refine grew_set ?_ (by first | exact Nat.le_refl _ | omega | (simp [go_sem]; done) | (simp [go_sem]; omega)))))⟩
      case measure => simp [intOf]; omega
    · obtain rfl : k = l.length := by omega
      clear hB hsz
      go_wp2
      go_ret
      exact ⟨⟨_, cs, rfl, Nat.le_refl _, HB.out, HS.out, HF.out⟩, HG.out⟩
/-- A day of the call's own: its lines fill a block of their own. -/
def DayOwn (w : World) (B : Nat) (A : Option Addr) (c : Nat) (l : List LineR) : Prop :=
  ∃ g cs, A = some ⟨g, 0, none⟩ ∧ c = l.length ∧ B ≤ g ∧ Blk w g 102 cs ∧ cs.size = l.length * 2 ∧ Filled cs 2 LineR.row l l.length
theorem DayOwn.grew {w w' : World} {B : Nat} {A : Option Addr} {c : Nat} {l : List LineR} (h : DayOwn w B A c l) (hg : ∃ g, w' = plus w g) : DayOwn w' B A c l := by
  obtain ⟨g, cs, h1, h2, h3, h4, h5, h6⟩ := h
  exact ⟨g, cs, h1, h2, h3, h4.below (below_of_grew hg) h4.lt, h5, h6⟩
theorem DayOwn.sl {w : World} {B : Nat} {A : Option Addr} {c : Nat} {l : List LineR} (h : DayOwn w B A c l) : Sl w 2 LineR.row A l := by
  obtain ⟨g, cs, rfl, h2, h3, h4, h5, h6⟩ := h
  exact Sl.of_blk h4 h6
set_option maxHeartbeats 1000000 in
theorem l_toSurveyDay (v : DayV) (w : World) (hv : v.At w) (hl : v.core.lines.length ≤ 1048576) :
    Calls Tryz.prog 50 #[v.val] w fun e' w' => (∃ A' c', e' = .returned (DayV.val ⟨v.core, A', c'⟩) ∧ DayV.At w' ⟨v.core, A', c'⟩ ∧ DayOwn w' w.heap.size A' c' v.core.lines) ∧ ∃ g, w' = plus w g := by
  obtain ⟨⟨minute, state, lines, line, since, cast, fuel⟩, A, c⟩ := v
  have HP := hid hv.ln
  simp only at HP hl ⊢
  clear hv
  go_enter Tryz.func50, Tryz.ntmps50
  go_wp2_with fail
  refine (l_toDayLineS lines _ _ _ (HP.out.grew (by (repeat (first | with_reducible exact grew_refl _ | with_reducible assumption | with_reducible refine grew_split ?_ | with_reducible refine grew_mk ?_ | with_reducible refine grew_plus ?_ | with_reducible refine grew_alloc ?_ | with_reducible refine grew_drew ?_ | (with_reducible refine grew_set ?_ (by first | exact Nat.le_refl _ | omega | (simp [go_sem]; done) | (simp [go_sem]; omega))))))) (by omega)).mono ?_
  rintro e w' ⟨⟨g1, cs1, rfl, hg1, hB1, hs1, hF1⟩, g2, rfl⟩
  (try rw [plus_plus] at hB1)
  have HB := hid hB1
  have HF := hid hF1
  have HS := hid hs1
  have HG := hid hg1
  clear hB1 hs1 hF1 hg1
  go_wp2_with fail
  refine bodyPost_ret (v := (⟨⟨minute, state, lines, line, since, cast, fuel⟩, some ⟨g1, 0, none⟩, lines.length⟩ : DayV).val) ?_ rfl ?_
  · simp [results, Tryz.results50, go_sem]
  · have h := HG.out
    simp at h
    have HB' : ∀ W', W'.heap.size = w.heap.size + 1 + 1 + 1 → Blk (plus W' g2) g1 102 cs1 := fun W' hW => HB.out.base (by simp; omega) (by rw [hW]; simp)
    refine ⟨⟨some ⟨g1, 0, none⟩, lines.length, rfl, ⟨Sl.of_blk (HB' _ (by simp)) HF.out, by unfold maxLen; simp only; omega⟩, ⟨g1, cs1, rfl, rfl, by omega, HB' _ (by simp), HS.out, HF.out⟩⟩, ?_⟩
    (repeat (first | with_reducible exact grew_refl _ | with_reducible assumption | with_reducible refine grew_split ?_ | with_reducible refine grew_mk ?_ | with_reducible refine grew_plus ?_ | with_reducible refine grew_alloc ?_ | with_reducible refine grew_drew ?_ | (with_reducible refine grew_set ?_ (by first | exact Nat.le_refl _ | omega | (simp [go_sem]; done) | (simp [go_sem]; omega)))))
end Go.Proofs.YtonbgaipmlgndaaGreatDoor
/- Fractions in lowest terms, least and greatest, in both packages: what they return, for numbers that are not negative. -/
namespace Go.Proofs.YtonbgaipmlgndaaGreatDoor
open Go.RowKit

set_option maxHeartbeats 400000 in
theorem s_l1Least (a b : Int) (w : World) : Calls Tryz.prog 142 #[.int .i64 a, .int .i64 b] w fun e w' => e = .returned (.int .i64 (min a b)) ∧ w = w' := by
  go_enter Tryz.func142, Tryz.ntmps142
  go_wp2
  all_goals
    go_ret
    exact ⟨ret_int (by grind), rfl⟩
set_option maxHeartbeats 400000 in
theorem s_l1Most (a b : Int) (w : World) : Calls Tryz.prog 109 #[.int .i64 a, .int .i64 b] w fun e w' => e = .returned (.int .i64 (max a b)) ∧ w = w' := by
  go_enter Tryz.func109, Tryz.ntmps109
  go_wp2
  all_goals
    go_ret
    exact ⟨ret_int (by grind), rfl⟩
theorem gcd_pos {a b : Nat} (h : 0 < b) : (1 : Int) ≤ (Nat.gcd a b : Int) := by have := Nat.gcd_pos_of_pos_right a h; omega
theorem tuple2 {a b c d : Int} (h : a = b) (h' : c = d) : Ending.returned (.tuple #[.int .i64 a, .int .i64 c]) = .returned (.tuple #[.int .i64 b, .int .i64 d]) := by rw [h, h']
theorem wrap_div {a d g : Nat} (h : a ≤ 9223372036854775807) (hd : d = g) : wrap64 ((a : Int) / (d : Int)) = ((a / g : Nat) : Int) := by
  subst hd
  rw [← Int.natCast_ediv]
  have := Nat.div_le_self a d
  generalize a / d = q at this ⊢
  unfold wrap64
  omega
end Go.Proofs.YtonbgaipmlgndaaGreatDoor
/- Whether the cast is good, and the minutes that are left, in both packages. -/
namespace Go.Proofs.YtonbgaipmlgndaaGreatDoor
open Go.RowKit

theorem ret_bb {a b c d : Bool} (h : a = b) (h' : c = d) : Ending.returned (.tuple #[.bool a, .bool c]) = .returned (.tuple #[.bool b, .bool d]) := by rw [h, h']
theorem ret_ib {a b : Int} {c d : Bool} (h : a = b) (h' : c = d) : Ending.returned (.tuple #[.int .i64 a, .bool c]) = .returned (.tuple #[.int .i64 b, .bool d]) := by rw [h, h']
theorem DayC.bounds {v : DayC} (h : v.ok = true) : 0 ≤ v.minute ∧ v.minute ≤ 1440 ∧ 0 ≤ v.state ∧ v.state ≤ 2 ∧ 1 ≤ v.lines.length ∧ v.lines.length ≤ 8 ∧ -1 ≤ v.cast ∧ v.cast ≤ v.minute ∧ 0 ≤ v.fuel ∧ v.fuel ≤ 9999 ∧ 0 ≤ v.since ∧ v.since ≤ v.minute ∧ 0 ≤ v.line ∧ v.line ≤ v.lines.length := by
  simp only [DayC.ok, DayC.pre, DayC.post, inB, Bool.and_eq_true, decide_eq_true_eq] at h
  obtain ⟨⟨h1, _⟩, h2⟩ := h
  split at h2 <;> simp only [Bool.and_eq_true, decide_eq_true_eq, beq_iff_eq] at h2 <;> omega
theorem DayC.mins {v : DayC} (h : v.ok = true) {k : Nat} (hk : k < v.lines.length) : 1 ≤ v.lines[k].minutes ∧ v.lines[k].minutes ≤ 300 := by
  simp only [DayC.ok, Bool.and_eq_true] at h
  have := allUpto_iff.1 h.1.2 k hk
  simp only [lnStep, hk, ↓reduceDIte, inB, Bool.and_eq_true, decide_eq_true_eq] at this
  omega
def castB (v : DayC) : Bool := decide (0 ≤ v.cast) && decide (v.minute - v.cast ≤ 240)
def castF (v : DayC) : Bool × Bool := if v.ok then (castB v, true) else (false, false)
set_option maxHeartbeats 400000 in
theorem s_l25Cast (v : DayV) (o : Bool) (ho : castB v.core = o) (w : World) (hk : v.core.ok = true) :
    Calls Tryz.prog 120 #[v.val] w fun e w' => e = .returned (.bool o) ∧ ∃ g, w' = plus w g := by
  subst ho
  obtain ⟨⟨minute, state, lines, line, since, cast, fuel⟩, A, c⟩ := v
  obtain ⟨b1, b2, b3, b4, b5, b6, b7, b8, b9⟩ := DayC.bounds hk
  simp only at b1 b2 b3 b4 b5 b6 b7 b8
  clear b9 hk
  go_enter Tryz.func120, Tryz.ntmps120
  go_wp2
  all_goals
    go_ret
    exact ⟨ret_bool (by simp only [castB]; grind), by (repeat (first | with_reducible exact grew_refl _ | with_reducible assumption | with_reducible refine grew_split ?_ | with_reducible refine grew_mk ?_ | with_reducible refine grew_plus ?_ | with_reducible refine grew_alloc ?_ | with_reducible refine grew_drew ?_ | (with_reducible refine grew_set ?_ (by first | exact Nat.le_refl _ | omega | (simp [go_sem]; done) | (simp [go_sem]; omega)))))⟩
set_option maxHeartbeats 400000 in
theorem i_castIsGood (v : DayV) (o : Bool) (ho : castB v.core = o) (w : World) (hk : v.core.ok = true) :
    Calls Tryz.prog 129 #[v.val] w fun e w' => e = .returned (.bool o) ∧ ∃ g, w' = plus w g := by
  subst ho
  obtain ⟨⟨minute, state, lines, line, since, cast, fuel⟩, A, c⟩ := v
  obtain ⟨b1, b2, b3, b4, b5, b6, b7, b8, b9⟩ := DayC.bounds hk
  simp only at b1 b2 b3 b4 b5 b6 b7 b8
  clear b9 hk
  go_enter Tryz.func129, Tryz.ntmps129
  go_wp2
  all_goals
    go_ret
    exact ⟨ret_bool (by simp only [castB]; grind), by (repeat (first | with_reducible exact grew_refl _ | with_reducible assumption | with_reducible refine grew_split ?_ | with_reducible refine grew_mk ?_ | with_reducible refine grew_plus ?_ | with_reducible refine grew_alloc ?_ | with_reducible refine grew_drew ?_ | (with_reducible refine grew_set ?_ (by first | exact Nat.le_refl _ | omega | (simp [go_sem]; done) | (simp [go_sem]; omega)))))⟩

/-- What is left to do of line k. -/
def leftAt (v : DayC) (k : Nat) : Int :=
  if h : k < v.lines.length then (if v.lines[k].done then 0 else if (k : Int) + 1 = v.line then v.lines[k].minutes - min (v.minute - v.since) v.lines[k].minutes else v.lines[k].minutes) else 0
def leftTo (v : DayC) : Nat → Int
  | 0 => 0
  | k + 1 => leftTo v k + leftAt v k
theorem leftTo_bound {v : DayC} (h : v.ok = true) : ∀ k, k ≤ v.lines.length → 0 ≤ leftTo v k ∧ leftTo v k ≤ 300 * k := by
  intro k
  induction k with
  | zero => intro _; simp [leftTo]
  | succ k ih =>
    intro hk
    have h0 := ih (by omega)
    have hm := DayC.mins h (show k < v.lines.length by omega)
    obtain ⟨b1, b2, b3, b4, b5, b6, b7, b8, b9, b10, b11, b12, _⟩ := DayC.bounds h
    have hlt : k < v.lines.length := by omega
    simp only [leftTo, leftAt, hlt, ↓reduceDIte]
    split
    · omega
    · split <;> omega
def leftF (v : DayC) : Int × Bool := if v.ok then (leftTo v v.lines.length, true) else (0, false)
set_option maxHeartbeats 2000000 in
theorem i_SurveyMinutesLeft (v : DayV) (w : World) (hv : v.At w) :
    Calls Tryz.prog 128 #[v.val] w fun e w' => e = .returned (.tuple #[.int .i64 (leftF v.core).1, .bool (leftF v.core).2]) ∧ ∃ g, w' = plus w g := by
  have HV := hid hv
  cases ho : v.core.ok
  · have HF : Hid (leftF v.core = (0, false)) := hid (by simp [leftF, ho])
    clear hv
    go_enter Tryz.func128, Tryz.ntmps128
    go_wp2_with (go_at_call 68; refine (i_IsSurveyDay v _ ho _ (HV.out.alloc _)).mono ?_; (rintro e w' ⟨rfl, gx, rfl⟩))
    go_ret2
    exact ⟨ret_ib (by rw [HF.out]) (by rw [HF.out]), by (repeat (first | with_reducible exact grew_refl _ | with_reducible assumption | with_reducible refine grew_split ?_ | with_reducible refine grew_mk ?_ | with_reducible refine grew_plus ?_ | with_reducible refine grew_alloc ?_ | with_reducible refine grew_drew ?_ | (with_reducible refine grew_set ?_ (by first | exact Nat.le_refl _ | omega | (simp [go_sem]; done) | (simp [go_sem]; omega)))))⟩
  · have HF : Hid (leftF v.core = (leftTo v.core v.core.lines.length, true)) := hid (by simp [leftF, ho])
    have HO := hid ho
    clear hv
    go_enter Tryz.func128, Tryz.ntmps128
    go_wp2_with (go_at_call 68; refine (i_IsSurveyDay v _ ho _ (HV.out.alloc _)).mono ?_; (rintro e w' ⟨rfl, gx, rfl⟩))
    have hp := HV.out.ln
    have hb := DayC.bounds ho
    obtain ⟨⟨minute, state, lines, line, since, cast, fuel⟩, A, c⟩ := v
    simp only at hp hb HO HF ⊢
    obtain ⟨b1, b2, b3, b4, b5, b6, b7, b8, b9, b10, b11, b12, b13, b14⟩ := hb
    clear ho
    go_loopw [4, 13, 6] (fun a i _ wr => ∃ k : Nat, k ≤ lines.length ∧ i = .int .i64 k ∧ a = .int .i64 (leftTo ⟨minute, state, lines, line, since, cast, fuel⟩ k) ∧ (∃ g, wr = plus (w.alloc (.cells #[.int .i64 minute, .int .i64 state, .slice A lines.length c, .int .i64 line, .int .i64 since, .int .i64 cast, .int .i64 fuel] 41)) g)) (fun _ i _ _ => lines.length - (intOf i).toNat)
    case atStart => exact ⟨0, Nat.zero_le _, rfl, rfl, by (repeat (first | with_reducible exact grew_refl _ | with_reducible assumption | with_reducible refine grew_split ?_ | with_reducible refine grew_mk ?_ | with_reducible refine grew_plus ?_ | with_reducible refine grew_alloc ?_ | with_reducible refine grew_drew ?_ | (with_reducible refine grew_set ?_ (by first | exact Nat.le_refl _ | omega | (simp [go_sem]; done) | (simp [go_sem]; omega)))))⟩
    case round =>
      obtain ⟨k, hk, rfl, rfl, g, rfl⟩ := hrel
      obtain ⟨l0, l1⟩ := leftTo_bound HO.out k hk
      by_cases hlt : k < lines.length
      · obtain ⟨b, off, rfl, hb, hc⟩ := hp.at_ hlt
        obtain ⟨hc0, hc1⟩ := lcells hc hlt
        obtain ⟨m0, m1⟩ := DayC.mins HO.out hlt
        have HA : Hid (leftTo ⟨minute, state, lines, line, since, cast, fuel⟩ (k + 1) = leftTo ⟨minute, state, lines, line, since, cast, fuel⟩ k + if lines[k].done then 0 else if (k : Int) + 1 = line then lines[k].minutes - min (minute - since) lines[k].minutes else lines[k].minutes) := hid (by simp [leftTo, leftAt, hlt])
        simp only at m0 m1
        clear hc hp
        go_wp2
        all_goals
          go_roundw
          case rel => exact ⟨k + 1, by omega, by go_num, vint (by rw [HA.out]; grind), by (repeat (first | with_reducible exact grew_refl _ | with_reducible assumption | with_reducible refine grew_split ?_ | with_reducible refine grew_mk ?_ | with_reducible refine grew_plus ?_ | with_reducible refine grew_alloc ?_ | with_reducible refine grew_drew ?_ | (with_reducible refine grew_set ?_ (by first | exact Nat.le_refl _ | omega | (simp [go_sem]; done) | (simp [go_sem]; omega)))))⟩
          case measure => simp [intOf]; omega
      · obtain rfl : k = lines.length := by omega
        clear hp
        go_wp2
        go_ret2
        exact ⟨ret_ib (by rw [HF.out]) (by rw [HF.out]), by (repeat (first | with_reducible exact grew_refl _ | with_reducible assumption | with_reducible refine grew_split ?_ | with_reducible refine grew_mk ?_ | with_reducible refine grew_plus ?_ | with_reducible refine grew_alloc ?_ | with_reducible refine grew_drew ?_ | (with_reducible refine grew_set ?_ (by first | exact Nat.le_refl _ | omega | (simp [go_sem]; done) | (simp [go_sem]; omega)))))⟩
set_option maxHeartbeats 2000000 in
theorem s_SurveyMinutesLeft (v : DayV) (w : World) (hv : v.At w) :
    Calls Tryz.prog 119 #[v.val] w fun e w' => e = .returned (.tuple #[.int .i64 (leftF v.core).1, .bool (leftF v.core).2]) ∧ ∃ g, w' = plus w g := by
  have HV := hid hv
  cases ho : v.core.ok
  · have HF : Hid (leftF v.core = (0, false)) := hid (by simp [leftF, ho])
    clear hv
    go_enter Tryz.func119, Tryz.ntmps119
    go_wp2_with (go_at_call 84; refine (s_l25Good v _ ho _ (HV.out.alloc _)).mono ?_; (rintro e w' ⟨rfl, gx, rfl⟩))
    go_ret2
    exact ⟨ret_ib (by rw [HF.out]) (by rw [HF.out]), by (repeat (first | with_reducible exact grew_refl _ | with_reducible assumption | with_reducible refine grew_split ?_ | with_reducible refine grew_mk ?_ | with_reducible refine grew_plus ?_ | with_reducible refine grew_alloc ?_ | with_reducible refine grew_drew ?_ | (with_reducible refine grew_set ?_ (by first | exact Nat.le_refl _ | omega | (simp [go_sem]; done) | (simp [go_sem]; omega)))))⟩
  · have HF : Hid (leftF v.core = (leftTo v.core v.core.lines.length, true)) := hid (by simp [leftF, ho])
    have HO := hid ho
    clear hv
    go_enter Tryz.func119, Tryz.ntmps119
    go_wp2_with (go_at_call 84; refine (s_l25Good v _ ho _ (HV.out.alloc _)).mono ?_; (rintro e w' ⟨rfl, gx, rfl⟩))
    have hp := HV.out.ln
    have hb := DayC.bounds ho
    obtain ⟨⟨minute, state, lines, line, since, cast, fuel⟩, A, c⟩ := v
    simp only at hp hb HO HF ⊢
    obtain ⟨b1, b2, b3, b4, b5, b6, b7, b8, b9, b10, b11, b12, b13, b14⟩ := hb
    clear ho
    go_loopw [4, 5] (fun a i wr => ∃ k : Nat, k ≤ lines.length ∧ i = .int .i64 k ∧ a = .int .i64 (leftTo ⟨minute, state, lines, line, since, cast, fuel⟩ k) ∧ (∃ g, wr = plus (w.alloc (.cells #[.int .i64 minute, .int .i64 state, .slice A lines.length c, .int .i64 line, .int .i64 since, .int .i64 cast, .int .i64 fuel] 41)) g)) (fun _ i _ => lines.length - (intOf i).toNat)
    case atStart => exact ⟨0, Nat.zero_le _, rfl, rfl, by (repeat (first | with_reducible exact grew_refl _ | with_reducible assumption | with_reducible refine grew_split ?_ | with_reducible refine grew_mk ?_ | with_reducible refine grew_plus ?_ | with_reducible refine grew_alloc ?_ | with_reducible refine grew_drew ?_ | (with_reducible refine grew_set ?_ (by first | exact Nat.le_refl _ | omega | (simp [go_sem]; done) | (simp [go_sem]; omega)))))⟩
    case round =>
      obtain ⟨k, hk, rfl, rfl, g, rfl⟩ := hrel
      obtain ⟨l0, l1⟩ := leftTo_bound HO.out k hk
      by_cases hlt : k < lines.length
      · obtain ⟨b, off, rfl, hb, hc⟩ := hp.at_ hlt
        obtain ⟨hc0, hc1⟩ := lcells hc hlt
        obtain ⟨m0, m1⟩ := DayC.mins HO.out hlt
        have HA : Hid (leftTo ⟨minute, state, lines, line, since, cast, fuel⟩ (k + 1) = leftTo ⟨minute, state, lines, line, since, cast, fuel⟩ k + if lines[k].done then 0 else if (k : Int) + 1 = line then lines[k].minutes - min (minute - since) lines[k].minutes else lines[k].minutes) := hid (by simp [leftTo, leftAt, hlt])
        simp only at m0 m1
        clear hc hp
        cases hd : lines[k].done
        · by_cases hl : (k : Int) + 1 = line
          · have hl' : (line == (k : Int) + 1) = true := by rw [hl]; simp
            have HL := hid hl
            clear hl
            go_wp2_with fail
            (refine wp_region_calm (by kernel_rfl) (by kernel_rfl) ?_; (repeat' (first | go_big_quiet_step ((go_at_call 142; first | exact calm_same (s_l1Least _ _ _) | exact calm_add_same (s_l1Least _ _ _))) | (refine wpQuiet_step (fun K hK => ?_); go_simp; go_ite <;> go_simp <;> (first | (refine hK _ ?_; clear hK K) | (apply Exists.intro; refine ⟨fun _ => ?_, hK _ ?_⟩; ((go_at_call 142; first | exact calm_same (s_l1Least _ _ _) | exact calm_add_same (s_l1Least _ _ _))); clear hK K))))); all_goals (refine wpQuiet_nil ?_; intro _ hw'; obtain ⟨gq, hw''⟩ := hw'; subst hw''))
            go_wp2
            go_roundw
            case rel => exact ⟨k + 1, by omega, by go_num, vint (by rw [HA.out]; have := HL.out; grind), by (repeat (first | with_reducible exact grew_refl _ | with_reducible assumption | with_reducible refine grew_split ?_ | with_reducible refine grew_mk ?_ | with_reducible refine grew_plus ?_ | with_reducible refine grew_alloc ?_ | with_reducible refine grew_drew ?_ | (with_reducible refine grew_set ?_ (by first | exact Nat.le_refl _ | omega | (simp [go_sem]; done) | (simp [go_sem]; omega)))))⟩
            case measure => simp [intOf]; omega
          · have hl' : (line == (k : Int) + 1) = false := by rw [beq_eq_false_iff_ne]; omega
            have HL := hid hl
            clear hl
            go_wp2
            go_roundw
            case rel => exact ⟨k + 1, by omega, by go_num, vint (by rw [HA.out]; have := HL.out; grind), by (repeat (first | with_reducible exact grew_refl _ | with_reducible assumption | with_reducible refine grew_split ?_ | with_reducible refine grew_mk ?_ | with_reducible refine grew_plus ?_ | with_reducible refine grew_alloc ?_ | with_reducible refine grew_drew ?_ | (with_reducible refine grew_set ?_ (by first | exact Nat.le_refl _ | omega | (simp [go_sem]; done) | (simp [go_sem]; omega)))))⟩
            case measure => simp [intOf]; omega
        · go_wp2
          go_roundw
          case rel => exact ⟨k + 1, by omega, by go_num, vint (by rw [HA.out]; grind), by (repeat (first | with_reducible exact grew_refl _ | with_reducible assumption | with_reducible refine grew_split ?_ | with_reducible refine grew_mk ?_ | with_reducible refine grew_plus ?_ | with_reducible refine grew_alloc ?_ | with_reducible refine grew_drew ?_ | (with_reducible refine grew_set ?_ (by first | exact Nat.le_refl _ | omega | (simp [go_sem]; done) | (simp [go_sem]; omega)))))⟩
          case measure => simp [intOf]; omega
      · obtain rfl : k = lines.length := by omega
        clear hp
        go_wp2
        go_ret2
        exact ⟨ret_ib (by rw [HF.out]) (by rw [HF.out]), by (repeat (first | with_reducible exact grew_refl _ | with_reducible assumption | with_reducible refine grew_split ?_ | with_reducible refine grew_mk ?_ | with_reducible refine grew_plus ?_ | with_reducible refine grew_alloc ?_ | with_reducible refine grew_drew ?_ | (with_reducible refine grew_set ?_ (by first | exact Nat.le_refl _ | omega | (simp [go_sem]; done) | (simp [go_sem]; omega)))))⟩
end Go.Proofs.YtonbgaipmlgndaaGreatDoor
