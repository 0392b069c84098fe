/- The laws' conversions of phases and lights: sizes, copies, comparison of equal ones. -/
import Derived.Test.YtjlaidjogladaaaLi1
namespace Go.Proofs.Ytjlaidjogladaaa
open Go.RowKit

set_option maxHeartbeats 400000 in
theorem l_eqPhase (p : PhaseR) (w : World) :
    Calls Try.prog 81 #[.agg #[.bool p.lit, .int .i64 p.tenths], .agg #[.bool p.lit, .int .i64 p.tenths]] w fun e' w' => e' = .returned (.bool true) ∧ ∃ g, w' = plus w g := by
  go_enter Try.func81, Try.ntmps81
  go_wp2
  go_ret
  exact ⟨rfl, by (repeat (first | with_reducible exact grew_refl _ | with_reducible assumption | with_reducible refine grew_split ?_ | with_reducible refine grew_mk ?_ | with_reducible refine grew_plus ?_ | with_reducible refine grew_alloc ?_ | with_reducible refine grew_drew ?_ | (with_reducible refine grew_set ?_ (by first | exact Nat.le_refl _ | omega | (simp [go_sem]; done) | (simp [go_sem]; omega)))))⟩
set_option maxHeartbeats 1000000 in
theorem l_eqPhaseS (l : List PhaseR) (A B : Option Addr) (c d : Nat) (w : World) (hA : Sl w 2 PhaseR.row A l) (hB : Sl w 2 PhaseR.row B l) (hl : l.length ≤ maxLen) :
    Calls Try.prog 68 #[.slice A l.length c, .slice B l.length d] w fun e' w' => e' = .returned (.bool true) ∧ ∃ g, w' = plus w g := by
  unfold maxLen at hl
  go_enter Try.func68, Try.ntmps68
  go_wp2_with fail
  go_loopw [5] (fun i wr => ∃ k : Nat, k ≤ l.length ∧ i = .int .i64 k ∧ (∃ g, wr = plus w g)) (fun i _ => l.length - (intOf i).toNat)
  case atStart => exact ⟨0, Nat.zero_le _, rfl, _, plus_refl _⟩
  case round =>
    obtain ⟨k, hk, rfl, g, rfl⟩ := hrel
    by_cases hlt : k < l.length
    · obtain ⟨b, off, rfl, hb, hc⟩ := hA.at_ hlt
      obtain ⟨b', off', rfl, hb', hc'⟩ := hB.at_ hlt
      obtain ⟨hc0, hc1⟩ := cells2 hc hlt
      obtain ⟨hd0, hd1⟩ := cells2 hc' hlt
      clear hc hA hc' hB
      go_wp2_with fail
      (refine wp_region_calm (by kernel_rfl) (by kernel_rfl) ?_; (repeat' (first | go_big_quiet_step ((go_at_call 81; first | exact calm_of (l_eqPhase l[k] _) | exact calm_add (l_eqPhase l[k] _))) | (refine wpQuiet_step (fun K hK => ?_); go_simp; go_ite <;> go_simp <;> (first | (refine hK _ ?_; clear hK K) | (apply Exists.intro; refine ⟨fun _ => ?_, hK _ ?_⟩; ((go_at_call 81; first | exact calm_of (l_eqPhase l[k] _) | exact calm_add (l_eqPhase l[k] _))); clear hK K))))); all_goals (refine wpQuiet_nil ?_; intro _ hw'; obtain ⟨gq, hw''⟩ := hw'; subst hw''))
      go_wp2
      go_roundw
      case rel => exact ⟨k + 1, by omega, by go_num, by (repeat (first | with_reducible exact grew_refl _ | with_reducible assumption | with_reducible refine grew_split ?_ | with_reducible refine grew_mk ?_ | with_reducible refine grew_plus ?_ | with_reducible refine grew_alloc ?_ | with_reducible refine grew_drew ?_ | (with_reducible refine grew_set ?_ (by first | exact Nat.le_refl _ | omega | (simp [go_sem]; done) | (simp [go_sem]; omega)))))⟩
      case measure => simp [intOf]; omega
    · go_wp2
      go_ret
      exact ⟨rfl, by (repeat (first | with_reducible exact grew_refl _ | with_reducible assumption | with_reducible refine grew_split ?_ | with_reducible refine grew_mk ?_ | with_reducible refine grew_plus ?_ | with_reducible refine grew_alloc ?_ | with_reducible refine grew_drew ?_ | (with_reducible refine grew_set ?_ (by first | exact Nat.le_refl _ | omega | (simp [go_sem]; done) | (simp [go_sem]; omega)))))⟩
set_option maxHeartbeats 400000 in
theorem l_eqSpot (x y : Int) (w : World) :
    Calls Try.prog 67 #[.agg #[.int .i64 x, .int .i64 y], .agg #[.int .i64 x, .int .i64 y]] w fun e' w' => e' = .returned (.bool true) ∧ ∃ g, w' = plus w g := by
  go_enter Try.func67, Try.ntmps67
  go_wp2
  go_ret
  exact ⟨rfl, by (repeat (first | with_reducible exact grew_refl _ | with_reducible assumption | with_reducible refine grew_split ?_ | with_reducible refine grew_mk ?_ | with_reducible refine grew_plus ?_ | with_reducible refine grew_alloc ?_ | with_reducible refine grew_drew ?_ | (with_reducible refine grew_set ?_ (by first | exact Nat.le_refl _ | omega | (simp [go_sem]; done) | (simp [go_sem]; omega)))))⟩
set_option maxHeartbeats 1000000 in
theorem l_eqLight (v : LightC) (A B : Option Addr) (c d : Nat) (w : World) (hv : LightV.At w ⟨v, A, c⟩) (hu : LightV.At w ⟨v, B, d⟩) :
    Calls Try.prog 38 #[LightV.val ⟨v, A, c⟩, LightV.val ⟨v, B, d⟩] w fun e w' => e = .returned (.bool true) ∧ ∃ g, w' = plus w g := by
  obtain ⟨id, nm, x, y, rg, ph⟩ := v
  have hl := hv.len
  have HP := hid hv.ph
  have HQ := hid hu.ph
  simp only at hl HP HQ
  clear hv hu
  go_enter Try.func38, Try.ntmps38
  go_wp2_with (first
    | (go_at_call 67; refine (l_eqSpot _ _ _).mono ?_; (rintro e w' ⟨rfl, gx, rfl⟩)))
  refine (l_eqPhaseS ph _ _ _ _ _ (by first | exact HP.out | exact ((HP.out.alloc _).alloc _).plus _) (by first | exact HQ.out | exact ((HQ.out.alloc _).alloc _).plus _) hl).mono ?_
  (rintro e w' ⟨rfl, gx, rfl⟩)
  go_wp2_with fail
  go_ret
  exact ⟨rfl, by (repeat (first | with_reducible exact grew_refl _ | with_reducible assumption | with_reducible refine grew_split ?_ | with_reducible refine grew_mk ?_ | with_reducible refine grew_plus ?_ | with_reducible refine grew_alloc ?_ | with_reducible refine grew_drew ?_ | (with_reducible refine grew_set ?_ (by first | exact Nat.le_refl _ | omega | (simp [go_sem]; done) | (simp [go_sem]; omega)))))⟩
set_option maxHeartbeats 400000 in
theorem l_szPhaseS (A : Option Addr) (m c : Nat) (n : Int) (w : World) (hl : m ≤ maxLen) (h0 : 0 ≤ n) (h1 : n ≤ 1048576) :
    Calls Try.prog 63 #[.slice A m c, .int .i64 n] w fun e' w' => (∃ k, e' = .returned (.int .i64 k) ∧ -1 ≤ k ∧ k ≤ n ∧ (0 ≤ k → m ≤ 1048576)) ∧ ∃ g, w' = plus w g := by
  unfold maxLen at hl
  go_enter Try.func63, Try.ntmps63
  go_wp2
  all_goals
    go_ret
    exact ⟨⟨_, rfl, by omega, by omega, by omega⟩, by (repeat (first | with_reducible exact grew_refl _ | with_reducible assumption | with_reducible refine grew_split ?_ | with_reducible refine grew_mk ?_ | with_reducible refine grew_plus ?_ | with_reducible refine grew_alloc ?_ | with_reducible refine grew_drew ?_ | (with_reducible refine grew_set ?_ (by first | exact Nat.le_refl _ | omega | (simp [go_sem]; done) | (simp [go_sem]; omega)))))⟩
set_option maxHeartbeats 1000000 in
theorem l_szLight (v : LightV) (n : Int) (w : World) (hv : v.At w) (h0 : 0 ≤ n) (h1 : n ≤ 1048576) :
    Calls Try.prog 30 #[v.val, .int .i64 n] w fun e' w' => (∃ k, e' = .returned (.int .i64 k) ∧ -1 ≤ k ∧ k ≤ n ∧ (0 ≤ k → v.core.ph.length ≤ 1048576)) ∧ ∃ g, w' = plus w g := by
  obtain ⟨⟨id, nm, x, y, rg, ph⟩, A, c⟩ := v
  have hl := hv.len
  have hn := hv.nm
  simp only at hl hn ⊢
  clear hv
  have hn' := hn
  unfold maxLen at hn'
  go_enter Try.func30, Try.ntmps30
  go_wp2_with (go_at_call 63; refine (l_szPhaseS _ _ _ _ _ hl (by omega) (by omega)).mono ?_; rintro e w' ⟨⟨kz, rfl, hkz, hkz1, hkz2⟩, gx, rfl⟩)
  all_goals
    go_ret
    exact ⟨⟨_, rfl, by omega, by omega, by omega⟩, by (repeat (first | with_reducible exact grew_refl _ | with_reducible assumption | with_reducible refine grew_split ?_ | with_reducible refine grew_mk ?_ | with_reducible refine grew_plus ?_ | with_reducible refine grew_alloc ?_ | with_reducible refine grew_drew ?_ | (with_reducible refine grew_set ?_ (by first | exact Nat.le_refl _ | omega | (simp [go_sem]; done) | (simp [go_sem]; omega)))))⟩
set_option maxHeartbeats 400000 in
theorem l_toPhase (p : PhaseR) (w : World) :
    Calls Try.prog 80 #[.agg #[.bool p.lit, .int .i64 p.tenths]] w fun e' w' => e' = .returned (.agg #[.bool p.lit, .int .i64 p.tenths]) ∧ ∃ g, w' = plus w g := by
  go_enter Try.func80, Try.ntmps80
  go_wp2
  refine bodyPost_ret (v := .agg #[.bool p.lit, .int .i64 p.tenths]) (by simp [results, Try.results80, go_sem]) rfl ⟨rfl, ?_⟩
  (repeat (first | with_reducible exact grew_refl _ | with_reducible assumption | with_reducible refine grew_split ?_ | with_reducible refine grew_mk ?_ | with_reducible refine grew_plus ?_ | with_reducible refine grew_alloc ?_ | with_reducible refine grew_drew ?_ | (with_reducible refine grew_set ?_ (by first | exact Nat.le_refl _ | omega | (simp [go_sem]; done) | (simp [go_sem]; omega)))))
set_option maxHeartbeats 400000 in
theorem l_toSpot (x y : Int) (w : World) :
    Calls Try.prog 65 #[.agg #[.int .i64 x, .int .i64 y]] w fun e' w' => e' = .returned (.agg #[.int .i64 x, .int .i64 y]) ∧ ∃ g, w' = plus w g := by
  go_enter Try.func65, Try.ntmps65
  go_wp2
  refine bodyPost_ret (v := .agg #[.int .i64 x, .int .i64 y]) (by simp [results, Try.results65, go_sem]) rfl ⟨rfl, ?_⟩
  (repeat (first | with_reducible exact grew_refl _ | with_reducible assumption | with_reducible refine grew_split ?_ | with_reducible refine grew_mk ?_ | with_reducible refine grew_plus ?_ | with_reducible refine grew_alloc ?_ | with_reducible refine grew_drew ?_ | (with_reducible refine grew_set ?_ (by first | exact Nat.le_refl _ | omega | (simp [go_sem]; done) | (simp [go_sem]; omega)))))
theorem phase_info : (Try.prog.info? 68).map (fun i => (i.zero, i.size, i.bytes)) = some (some (.agg #[.bool false, .int .i64 0]), 2, 16) := by kernel_rfl
set_option maxHeartbeats 1000000 in
theorem l_toPhaseS (l : List PhaseR) (A : Option Addr) (c : Nat) (w : World) (hA : Sl w 2 PhaseR.row A l) (hl : l.length * 16 ≤ 140737488355328) :
    Calls Try.prog 66 #[.slice A l.length c] w fun e' w' => (∃ g cs, e' = .returned (.slice (some ⟨g, 0, none⟩) l.length l.length) ∧ w.heap.size ≤ g ∧ Blk w' g 68 cs ∧ cs.size = l.length * 2 ∧ Filled cs 2 PhaseR.row l l.length) ∧ ∃ g, w' = plus w g := by
  obtain ⟨i0, hi0, hz0, hz1, hz2⟩ := info_parts phase_info
  have hmk : ∀ W : World, (Instr.makeSlice 53 (.int .i64 (l.length : Int)) (.int .i64 (l.length : Int))).run Try.prog W = .ok (.slice (some ⟨W.heap.size, 0, none⟩) l.length l.length) (W.alloc (.cells (madeCells _ (l.length * 2)) 68)) := fun W => by
    rcases run_make_rowN (P := Try.prog) 53 68 i0 _ Try.underlying53 hi0 hz0 l.length (by rw [hz2]; omega) W with h | h
    · rw [hz1] at h; exact h
    · rw [hz2] at h; cases h
  go_enter Try.func66, Try.ntmps66
  go_wp2_with fail
  go_loopw [4] (fun i wr => ∃ (k : Nat) (cs : Array Value), k ≤ l.length ∧ i = .int .i64 k ∧ Blk wr w.heap.size 68 cs ∧ cs.size = l.length * 2 ∧ Filled cs 2 PhaseR.row l k ∧ ∃ g, wr = plus w g) (fun i _ => l.length - (intOf i).toNat)
  case atStart => exact ⟨0, _, Nat.zero_le _, rfl, Blk.new _ _ _, size_madeCells _ _, Filled.zero _ _ _ _, by (repeat (first | with_reducible exact grew_refl _ | with_reducible assumption | with_reducible refine grew_split ?_ | with_reducible refine grew_mk ?_ | with_reducible refine grew_plus ?_ | with_reducible refine grew_alloc ?_ | with_reducible refine grew_drew ?_ | (with_reducible refine grew_set ?_ (by first | exact Nat.le_refl _ | omega | (simp [go_sem]; done) | (simp [go_sem]; omega)))))⟩
  case round =>
    obtain ⟨k, cs, hk, rfl, hB, hsz, hF, hg⟩ := hrel
    have hAr : Sl wr 2 PhaseR.row A l := hA.below (below_of_grew hg)
    have HG := hid hg
    have HS := hid hsz
    have HF := hid hF
    have HB := hid hB
    clear hg hF
    by_cases hlt : k < l.length
    · obtain ⟨b, off, rfl, hb, hc⟩ := hAr.at_ hlt
      obtain ⟨hc0, hc1⟩ := cells2 hc hlt
      have hG := hB.lt
      obtain ⟨⟨_, hz0⟩, ⟨_, hz1⟩, hf0, hf1⟩ := hB.some2 (k * 2) (by omega)
      clear hc hAr hA hB hsz
      go_wp2_with (go_at_call 80; refine (l_toPhase l[k] _).mono ?_; (rintro e w' ⟨rfl, gx, rfl⟩))
      go_roundw
      case rel =>
        have h1 := HF.out.step hlt (fun _ _ => rfl) (by rw [HS.out]; omega)
        have h2 := (HB.out.put2 (k * 2) (.bool l[k].lit) (.int .i64 l[k].tenths)).plus gx
        have HG := HG.out
        exact ⟨k + 1, _, by omega, by go_num, h2, by rw [size_put]; exact HS.out, h1, by (repeat (first | with_reducible exact grew_refl _ | with_reducible assumption | with_reducible refine grew_split ?_ | with_reducible refine grew_mk ?_ | with_reducible refine grew_plus ?_ | with_reducible refine grew_alloc ?_ | with_reducible refine grew_drew ?_ | (with_reducible refine grew_set ?_ (by first | exact Nat.le_refl _ | omega | (simp [go_sem]; done) | (simp [go_sem]; omega)))))⟩
      case measure => simp [intOf]; omega
    · obtain rfl : k = l.length := by omega
      clear hB hsz
      go_wp2
      go_ret
      exact ⟨⟨_, cs, rfl, Nat.le_refl _, HB.out, HS.out, HF.out⟩, HG.out⟩
set_option maxHeartbeats 1000000 in
theorem l_toLight (v : LightV) (w : World) (hv : v.At w) (hl : v.core.ph.length ≤ 1048576) :
    Calls Try.prog 34 #[v.val] w fun e' w' => (∃ A' c', e' = .returned (LightV.val ⟨v.core, A', c'⟩) ∧ LightV.At w' ⟨v.core, A', c'⟩) ∧ ∃ g, w' = plus w g := by
  obtain ⟨⟨id, nm, x, y, rg, ph⟩, A, c⟩ := v
  have HP := hid hv.ph
  have hn := hv.nm
  simp only at HP hn hl ⊢
  clear hv
  go_enter Try.func34, Try.ntmps34
  go_wp2_with (first
    | (go_at_call 65; refine (l_toSpot _ _ _).mono ?_; (rintro e w' ⟨rfl, gx, rfl⟩)))
  refine (l_toPhaseS ph _ _ _ ?_ (by omega)).mono ?_
  · exact HP.out.grew (by (repeat (first | with_reducible exact grew_refl _ | with_reducible assumption | with_reducible refine grew_split ?_ | with_reducible refine grew_mk ?_ | with_reducible refine grew_plus ?_ | with_reducible refine grew_alloc ?_ | with_reducible refine grew_drew ?_ | (with_reducible refine grew_set ?_ (by first | exact Nat.le_refl _ | omega | (simp [go_sem]; done) | (simp [go_sem]; omega))))))
  rintro e w' ⟨⟨g1, cs1, rfl, hg1, hB1, hs1, hF1⟩, g2, rfl⟩
  rw [plus_plus] at hB1
  have HB := hid hB1
  have HF := hid hF1
  have HG := hid hg1
  clear hB1 hs1 hF1 hg1
  go_wp2_with fail
  refine bodyPost_ret (v := (⟨⟨id, nm, x, y, rg, ph⟩, some ⟨g1, 0, none⟩, ph.length⟩ : LightV).val) ?_ rfl ?_
  · simp [results, Try.results34, go_sem]
  · refine ⟨⟨some ⟨g1, 0, none⟩, ph.length, rfl, ⟨?_, hn, ?_⟩⟩, ?_⟩
    · refine Sl.of_blk (t := 68) (cs := cs1) ?_ HF.out
      have h := HG.out
      rw [size_plus] at h
      refine HB.out.base (by simp at h ⊢; omega) (by simp)
    · unfold maxLen; simp only; omega
    · (repeat (first | with_reducible exact grew_refl _ | with_reducible assumption | with_reducible refine grew_split ?_ | with_reducible refine grew_mk ?_ | with_reducible refine grew_plus ?_ | with_reducible refine grew_alloc ?_ | with_reducible refine grew_drew ?_ | (with_reducible refine grew_set ?_ (by first | exact Nat.le_refl _ | omega | (simp [go_sem]; done) | (simp [go_sem]; omega)))))
end Go.Proofs.Ytjlaidjogladaaa
