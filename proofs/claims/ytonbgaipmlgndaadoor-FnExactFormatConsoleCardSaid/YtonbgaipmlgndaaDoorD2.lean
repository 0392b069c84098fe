/- The laws' conversions of days: sizes, copies, comparison of equal ones. -/
import Derived.Test.YtonbgaipmlgndaaDoorD1
namespace Go.Proofs.YtonbgaipmlgndaaDoor
open Go.RowKit

set_option maxHeartbeats 400000 in
theorem l_eqDayLine (p : LineR) (w : World) :
    Calls Tryd.prog 37 #[.agg #[.int .i64 p.minutes, .bool p.done], .agg #[.int .i64 p.minutes, .bool p.done]] w fun e' w' => e' = .returned (.bool true) ∧ ∃ g, w' = plus w g := by
  go_enter Tryd.func37, Tryd.ntmps37
  go_wp2
  go_ret
  exact ⟨rfl, by (repeat (first | with_reducible exact grew_refl _ | with_reducible assumption | with_reducible refine grew_split ?_ | with_reducible refine grew_mk ?_ | with_reducible refine grew_plus ?_ | with_reducible refine grew_alloc ?_ | with_reducible refine grew_drew ?_ | (with_reducible refine grew_set ?_ (by first | exact Nat.le_refl _ | omega | (simp [go_sem]; done) | (simp [go_sem]; omega)))))⟩
set_option maxHeartbeats 1000000 in
theorem l_eqDayLineS (l : List LineR) (A B : Option Addr) (c d : Nat) (w : World) (hA : Sl w 2 LineR.row A l) (hB : Sl w 2 LineR.row B l) (hl : l.length ≤ maxLen) :
    Calls Tryd.prog 31 #[.slice A l.length c, .slice B l.length d] w fun e' w' => e' = .returned (.bool true) ∧ ∃ g, w' = plus w g := by
  unfold maxLen at hl
  go_enter Tryd.func31, Tryd.ntmps31
  go_wp2_with fail
  go_loopw [5] (fun i wr => ∃ k : Nat, k ≤ l.length ∧ i = .int .i64 k ∧ (∃ g, wr = plus w g)) (fun i _ => l.length - (intOf i).toNat)
  case atStart => exact ⟨0, Nat.zero_le _, rfl, _, plus_refl _⟩
  case round =>
    obtain ⟨k, hk, rfl, g, rfl⟩ := hrel
    by_cases hlt : k < l.length
    · obtain ⟨b, off, rfl, hb, hc⟩ := hA.at_ hlt
      obtain ⟨b', off', rfl, hb', hc'⟩ := hB.at_ hlt
      obtain ⟨hc0, hc1⟩ := lcells hc hlt
      obtain ⟨hd0, hd1⟩ := lcells hc' hlt
      clear hc hA hc' hB
      go_wp2_with fail
      (refine wp_region_calm (by kernel_rfl) (by kernel_rfl) ?_; (repeat' (first | go_big_quiet_step ((go_at_call 37; first | exact calm_of (l_eqDayLine l[k] _) | exact calm_add (l_eqDayLine l[k] _))) | (refine wpQuiet_step (fun K hK => ?_); go_simp; go_ite <;> go_simp <;> (first | (refine hK _ ?_; clear hK K) | (apply Exists.intro; refine ⟨fun _ => ?_, hK _ ?_⟩; ((go_at_call 37; first | exact calm_of (l_eqDayLine l[k] _) | exact calm_add (l_eqDayLine l[k] _))); clear hK K))))); all_goals (refine wpQuiet_nil ?_; intro _ hw'; obtain ⟨gq, hw''⟩ := hw'; subst hw''))
      go_wp2
      go_roundw
      case rel => exact ⟨k + 1, by omega, by go_num, by (repeat (first | with_reducible exact grew_refl _ | with_reducible assumption | with_reducible refine grew_split ?_ | with_reducible refine grew_mk ?_ | with_reducible refine grew_plus ?_ | with_reducible refine grew_alloc ?_ | with_reducible refine grew_drew ?_ | (with_reducible refine grew_set ?_ (by first | exact Nat.le_refl _ | omega | (simp [go_sem]; done) | (simp [go_sem]; omega)))))⟩
      case measure => simp [intOf]; omega
    · go_wp2
      go_ret
      exact ⟨rfl, by (repeat (first | with_reducible exact grew_refl _ | with_reducible assumption | with_reducible refine grew_split ?_ | with_reducible refine grew_mk ?_ | with_reducible refine grew_plus ?_ | with_reducible refine grew_alloc ?_ | with_reducible refine grew_drew ?_ | (with_reducible refine grew_set ?_ (by first | exact Nat.le_refl _ | omega | (simp [go_sem]; done) | (simp [go_sem]; omega)))))⟩
set_option maxHeartbeats 1000000 in
theorem l_eqSurveyDay (v : DayC) (A B : Option Addr) (c d : Nat) (w : World) (hv : DayV.At w ⟨v, A, c⟩) (hu : DayV.At w ⟨v, B, d⟩) :
    Calls Tryd.prog 19 #[DayV.val ⟨v, A, c⟩, DayV.val ⟨v, B, d⟩] w fun e w' => e = .returned (.bool true) ∧ ∃ g, w' = plus w g := by
  obtain ⟨minute, state, lines, line, since, cast, fuel⟩ := v
  have hl := hv.len
  have HP := hid hv.ln
  have HQ := hid hu.ln
  simp only at hl HP HQ
  clear hv hu
  go_enter Tryd.func19, Tryd.ntmps19
  go_wp2_with fail
  refine (l_eqDayLineS lines _ _ _ _ _ (HP.out.grew (by (repeat (first | with_reducible exact grew_refl _ | with_reducible assumption | with_reducible refine grew_split ?_ | with_reducible refine grew_mk ?_ | with_reducible refine grew_plus ?_ | with_reducible refine grew_alloc ?_ | with_reducible refine grew_drew ?_ | (with_reducible refine grew_set ?_ (by first | exact Nat.le_refl _ | omega | (simp [go_sem]; done) | (simp [go_sem]; omega))))))) (HQ.out.grew (by (repeat (first | with_reducible exact grew_refl _ | with_reducible assumption | with_reducible refine grew_split ?_ | with_reducible refine grew_mk ?_ | with_reducible refine grew_plus ?_ | with_reducible refine grew_alloc ?_ | with_reducible refine grew_drew ?_ | (with_reducible refine grew_set ?_ (by first | exact Nat.le_refl _ | omega | (simp [go_sem]; done) | (simp [go_sem]; omega))))))) hl).mono ?_
  (rintro e w' ⟨rfl, gx, rfl⟩)
  go_wp2_with fail
  go_ret
  exact ⟨rfl, by (repeat (first | with_reducible exact grew_refl _ | with_reducible assumption | with_reducible refine grew_split ?_ | with_reducible refine grew_mk ?_ | with_reducible refine grew_plus ?_ | with_reducible refine grew_alloc ?_ | with_reducible refine grew_drew ?_ | (with_reducible refine grew_set ?_ (by first | exact Nat.le_refl _ | omega | (simp [go_sem]; done) | (simp [go_sem]; omega)))))⟩
set_option maxHeartbeats 400000 in
theorem l_szDayLineS (A : Option Addr) (m c : Nat) (n : Int) (w : World) (hl : m ≤ maxLen) (h0 : 0 ≤ n) (h1 : n ≤ 1048576) :
    Calls Tryd.prog 25 #[.slice A m c, .int .i64 n] w fun e' w' => (∃ k, e' = .returned (.int .i64 k) ∧ -1 ≤ k ∧ k ≤ n ∧ (0 ≤ k → m ≤ 1048576)) ∧ ∃ g, w' = plus w g := by
  unfold maxLen at hl
  go_enter Tryd.func25, Tryd.ntmps25
  go_wp2
  all_goals
    go_ret
    exact ⟨⟨_, rfl, by omega, by omega, by omega⟩, by (repeat (first | with_reducible exact grew_refl _ | with_reducible assumption | with_reducible refine grew_split ?_ | with_reducible refine grew_mk ?_ | with_reducible refine grew_plus ?_ | with_reducible refine grew_alloc ?_ | with_reducible refine grew_drew ?_ | (with_reducible refine grew_set ?_ (by first | exact Nat.le_refl _ | omega | (simp [go_sem]; done) | (simp [go_sem]; omega)))))⟩
set_option maxHeartbeats 1000000 in
theorem l_szSurveyDay (v : DayV) (n : Int) (w : World) (hv : v.At w) (h0 : 0 ≤ n) (h1 : n ≤ 1048576) :
    Calls Tryd.prog 12 #[v.val, .int .i64 n] w fun e' w' => (∃ k, e' = .returned (.int .i64 k) ∧ -1 ≤ k ∧ k ≤ n ∧ (0 ≤ k → v.core.lines.length ≤ 1048576)) ∧ ∃ g, w' = plus w g := by
  obtain ⟨⟨minute, state, lines, line, since, cast, fuel⟩, A, c⟩ := v
  have hl := hv.len
  simp only at hl ⊢
  clear hv
  go_enter Tryd.func12, Tryd.ntmps12
  go_wp2_with (go_at_call 25; refine (l_szDayLineS _ _ _ _ _ hl (by omega) (by omega)).mono ?_; rintro e w' ⟨⟨kz, rfl, hkz, hkz1, hkz2⟩, gx, rfl⟩)
  all_goals
    go_ret
    exact ⟨⟨_, rfl, by omega, by omega, by omega⟩, by (repeat (first | with_reducible exact grew_refl _ | with_reducible assumption | with_reducible refine grew_split ?_ | with_reducible refine grew_mk ?_ | with_reducible refine grew_plus ?_ | with_reducible refine grew_alloc ?_ | with_reducible refine grew_drew ?_ | (with_reducible refine grew_set ?_ (by first | exact Nat.le_refl _ | omega | (simp [go_sem]; done) | (simp [go_sem]; omega)))))⟩
set_option maxHeartbeats 400000 in
theorem l_toDayLine (p : LineR) (w : World) :
    Calls Tryd.prog 35 #[.agg #[.int .i64 p.minutes, .bool p.done]] w fun e' w' => e' = .returned (.agg #[.int .i64 p.minutes, .bool p.done]) ∧ ∃ g, w' = plus w g := by
  go_enter Tryd.func35, Tryd.ntmps35
  go_wp2
  refine bodyPost_ret (v := .agg #[.int .i64 p.minutes, .bool p.done]) (by simp [results, Tryd.results35, go_sem]) rfl ⟨rfl, ?_⟩
  (repeat (first | with_reducible exact grew_refl _ | with_reducible assumption | with_reducible refine grew_split ?_ | with_reducible refine grew_mk ?_ | with_reducible refine grew_plus ?_ | with_reducible refine grew_alloc ?_ | with_reducible refine grew_drew ?_ | (with_reducible refine grew_set ?_ (by first | exact Nat.le_refl _ | omega | (simp [go_sem]; done) | (simp [go_sem]; omega)))))
theorem dayline_info : (Tryd.prog.info? 52).map (fun i => (i.zero, i.size, i.bytes)) = some (some (.agg #[.int .i64 0, .bool false]), 2, 16) := by kernel_rfl
set_option maxHeartbeats 1000000 in
theorem l_toDayLineS (l : List LineR) (A : Option Addr) (c : Nat) (w : World) (hA : Sl w 2 LineR.row A l) (hl : l.length * 16 ≤ 140737488355328) :
    Calls Tryd.prog 28 #[.slice A l.length c] w fun e' w' => (∃ g cs, e' = .returned (.slice (some ⟨g, 0, none⟩) l.length l.length) ∧ w.heap.size ≤ g ∧ Blk w' g 52 cs ∧ cs.size = l.length * 2 ∧ Filled cs 2 LineR.row l l.length) ∧ ∃ g, w' = plus w g := by
  obtain ⟨i0, hi0, hz0, hz1, hz2⟩ := info_parts dayline_info
  have hmk : ∀ W : World, (Instr.makeSlice 31 (.int .i64 (l.length : Int)) (.int .i64 (l.length : Int))).run Tryd.prog W = .ok (.slice (some ⟨W.heap.size, 0, none⟩) l.length l.length) (W.alloc (.cells (madeCells _ (l.length * 2)) 52)) := fun W => by
    rcases run_make_rowN (P := Tryd.prog) 31 52 i0 _ Tryd.underlying31 hi0 hz0 l.length (by rw [hz2]; omega) W with h | h
    · rw [hz1] at h; exact h
    · rw [hz2] at h; cases h
  go_enter Tryd.func28, Tryd.ntmps28
  go_wp2_with fail
  go_loopw [4] (fun i wr => ∃ (k : Nat) (cs : Array Value), k ≤ l.length ∧ i = .int .i64 k ∧ Blk wr w.heap.size 52 cs ∧ cs.size = l.length * 2 ∧ Filled cs 2 LineR.row l k ∧ ∃ g, wr = plus w g) (fun i _ => l.length - (intOf i).toNat)
  case atStart => exact ⟨0, _, Nat.zero_le _, rfl, Blk.new _ _ _, size_madeCells _ _, Filled.zero _ _ _ _, by (repeat (first | with_reducible exact grew_refl _ | with_reducible assumption | with_reducible refine grew_split ?_ | with_reducible refine grew_mk ?_ | with_reducible refine grew_plus ?_ | with_reducible refine grew_alloc ?_ | with_reducible refine grew_drew ?_ | (with_reducible refine grew_set ?_ (by first | exact Nat.le_refl _ | omega | (simp [go_sem]; done) | (simp [go_sem]; omega)))))⟩
  case round =>
    obtain ⟨k, cs, hk, rfl, hB, hsz, hF, hg⟩ := hrel
    have hAr : Sl wr 2 LineR.row A l := hA.below (below_of_grew hg)
    have HG := hid hg
    have HS := hid hsz
    have HF := hid hF
    have HB := hid hB
    clear hg hF
    by_cases hlt : k < l.length
    · obtain ⟨b, off, rfl, hb, hc⟩ := hAr.at_ hlt
      obtain ⟨hc0, hc1⟩ := lcells hc hlt
      have hG := hB.lt
      obtain ⟨⟨_, hz0⟩, ⟨_, hz1⟩, hf0, hf1⟩ := hB.some2 (k * 2) (by omega)
      clear hc hAr hA hB hsz
      go_wp2_with (go_at_call 35; refine (l_toDayLine l[k] _).mono ?_; (rintro e w' ⟨rfl, gx, rfl⟩))
      go_roundw
      case rel =>
        have h1 := HF.out.step hlt (fun _ _ => rfl) (by rw [HS.out]; omega)
        have h2 := (HB.out.put2 (k * 2) (.int .i64 l[k].minutes) (.bool l[k].done)).plus gx
        have HG := HG.out
        exact ⟨k + 1, _, by omega, by go_num, h2, by rw [size_put]; exact HS.out, h1, by (repeat (first | with_reducible exact grew_refl _ | with_reducible assumption | with_reducible refine grew_split ?_ | with_reducible refine grew_mk ?_ | with_reducible refine grew_plus ?_ | with_reducible refine grew_alloc ?_ | with_reducible refine grew_drew ?_ | (with_reducible refine grew_set ?_ (by first | exact Nat.le_refl _ | omega | (simp [go_sem]; done) | (simp [go_sem]; omega)))))⟩
      case measure => simp [intOf]; omega
    · obtain rfl : k = l.length := by omega
      clear hB hsz
      go_wp2
      go_ret
      exact ⟨⟨_, cs, rfl, Nat.le_refl _, HB.out, HS.out, HF.out⟩, HG.out⟩
/-- A day of the call's own: its lines fill a block of their own. -/
def DayOwn (w : World) (B : Nat) (A : Option Addr) (c : Nat) (l : List LineR) : Prop :=
  ∃ g cs, A = some ⟨g, 0, none⟩ ∧ c = l.length ∧ B ≤ g ∧ Blk w g 52 cs ∧ cs.size = l.length * 2 ∧ Filled cs 2 LineR.row l l.length
theorem DayOwn.grew {w w' : World} {B : Nat} {A : Option Addr} {c : Nat} {l : List LineR} (h : DayOwn w B A c l) (hg : ∃ g, w' = plus w g) : DayOwn w' B A c l := by
  obtain ⟨g, cs, h1, h2, h3, h4, h5, h6⟩ := h
  exact ⟨g, cs, h1, h2, h3, h4.below (below_of_grew hg) h4.lt, h5, h6⟩
theorem DayOwn.sl {w : World} {B : Nat} {A : Option Addr} {c : Nat} {l : List LineR} (h : DayOwn w B A c l) : Sl w 2 LineR.row A l := by
  obtain ⟨g, cs, rfl, h2, h3, h4, h5, h6⟩ := h
  exact Sl.of_blk h4 h6
set_option maxHeartbeats 1000000 in
theorem l_toSurveyDay (v : DayV) (w : World) (hv : v.At w) (hl : v.core.lines.length ≤ 1048576) :
    Calls Tryd.prog 15 #[v.val] w fun e' w' => (∃ A' c', e' = .returned (DayV.val ⟨v.core, A', c'⟩) ∧ DayV.At w' ⟨v.core, A', c'⟩ ∧ DayOwn w' w.heap.size A' c' v.core.lines) ∧ ∃ g, w' = plus w g := by
  obtain ⟨⟨minute, state, lines, line, since, cast, fuel⟩, A, c⟩ := v
  have HP := hid hv.ln
  simp only at HP hl ⊢
  clear hv
  go_enter Tryd.func15, Tryd.ntmps15
  go_wp2_with fail
  refine (l_toDayLineS lines _ _ _ (HP.out.grew (by (repeat (first | with_reducible exact grew_refl _ | with_reducible assumption | with_reducible refine grew_split ?_ | with_reducible refine grew_mk ?_ | with_reducible refine grew_plus ?_ | with_reducible refine grew_alloc ?_ | with_reducible refine grew_drew ?_ | (with_reducible refine grew_set ?_ (by first | exact Nat.le_refl _ | omega | (simp [go_sem]; done) | (simp [go_sem]; omega))))))) (by omega)).mono ?_
  rintro e w' ⟨⟨g1, cs1, rfl, hg1, hB1, hs1, hF1⟩, g2, rfl⟩
  (try rw [plus_plus] at hB1)
  have HB := hid hB1
  have HF := hid hF1
  have HS := hid hs1
  have HG := hid hg1
  clear hB1 hs1 hF1 hg1
  go_wp2_with fail
  refine bodyPost_ret (v := (⟨⟨minute, state, lines, line, since, cast, fuel⟩, some ⟨g1, 0, none⟩, lines.length⟩ : DayV).val) ?_ rfl ?_
  · simp [results, Tryd.results15, go_sem]
  · have h := HG.out
    simp at h
    have HB' : ∀ W', W'.heap.size = w.heap.size + 1 + 1 + 1 → Blk (plus W' g2) g1 52 cs1 := fun W' hW => HB.out.base (by simp; omega) (by rw [hW]; simp)
    refine ⟨⟨some ⟨g1, 0, none⟩, lines.length, rfl, ⟨Sl.of_blk (HB' _ (by simp)) HF.out, by unfold maxLen; simp only; omega⟩, ⟨g1, cs1, rfl, rfl, by omega, HB' _ (by simp), HS.out, HF.out⟩⟩, ?_⟩
    (repeat (first | with_reducible exact grew_refl _ | with_reducible assumption | with_reducible refine grew_split ?_ | with_reducible refine grew_mk ?_ | with_reducible refine grew_plus ?_ | with_reducible refine grew_alloc ?_ | with_reducible refine grew_drew ?_ | (with_reducible refine grew_set ?_ (by first | exact Nat.le_refl _ | omega | (simp [go_sem]; done) | (simp [go_sem]; omega)))))
end Go.Proofs.YtonbgaipmlgndaaDoor
