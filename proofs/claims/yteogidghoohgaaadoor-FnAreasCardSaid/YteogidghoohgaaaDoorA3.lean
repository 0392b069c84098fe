/- The laws' own functions on lists of area rows (sizes, conversions, comparison of equal lists). -/
import Derived.Test.YteogidghoohgaaaDoorA2
import Derived.Test.YteogidghoohgaaaDoorMem
namespace Go.Proofs.YteogidghoohgaaaDoor
open Go.RowKit

set_option maxHeartbeats 1000000 in
theorem l_eqAreaRow (r : AreaR) (w : World) :
    Calls Tryd.prog 36 #[r.val, r.val] w fun e' w' => e' = .returned (.bool true) ∧ ∃ g, w' = plus w g := by
  go_enter Tryd.func36, Tryd.ntmps36
  go_wp2
  go_ret
  exact ⟨rfl, by (repeat (first | with_reducible exact grew_refl _ | with_reducible assumption | with_reducible refine grew_split ?_ | with_reducible refine grew_mk ?_ | with_reducible refine grew_plus ?_ | with_reducible refine grew_alloc ?_ | with_reducible refine grew_drew ?_ | (with_reducible refine grew_set ?_ (by first | exact Nat.le_refl _ | omega | (simp [go_sem]; done) | (simp [go_sem]; omega)))))⟩
set_option maxHeartbeats 1000000 in
theorem l_eqAreaRowS (l : List AreaR) (A B : Option Addr) (c d : Nat) (w : World) (hA : Sl w 6 AreaR.row A l) (hB : Sl w 6 AreaR.row B l) (hl : l.length ≤ maxLen) :
    Calls Tryd.prog 9 #[.slice A l.length c, .slice B l.length d] w fun e' w' => e' = .returned (.bool true) ∧ ∃ g, w' = plus w g := by
  unfold maxLen at hl
  go_enter Tryd.func9, Tryd.ntmps9
  go_wp2_with fail
  go_loopw [5] (fun i wr => ∃ k : Nat, k ≤ l.length ∧ i = .int .i64 k ∧ (∃ g, wr = plus w g)) (fun i _ => l.length - (intOf i).toNat)
  case atStart => exact ⟨0, Nat.zero_le _, rfl, _, plus_refl _⟩
  case round =>
    obtain ⟨k, hk, rfl, g, rfl⟩ := hrel
    by_cases hlt : k < l.length
    · obtain ⟨b, off, rfl, hb, hc⟩ := hA.at_ hlt
      obtain ⟨b', off', rfl, hb', hc'⟩ := hB.at_ hlt
      obtain ⟨hc0, hc1, hc2, hc3, hc4, hc5⟩ := AreaR.cells6 hc hlt
      obtain ⟨hd0, hd1, hd2, hd3, hd4, hd5⟩ := AreaR.cells6 hc' hlt
      clear hc hA hc' hB
      go_wp2_with fail
      (refine wp_region_calm (by kernel_rfl) (by kernel_rfl) ?_; (repeat' (first | go_big_quiet_step ((go_at_call 36; first | exact calm_of (l_eqAreaRow l[k] _) | exact calm_add (l_eqAreaRow l[k] _))) | (refine wpQuiet_step (fun K hK => ?_); go_simp; go_ite <;> go_simp <;> (first | (refine hK _ ?_; clear hK K) | (apply Exists.intro; refine ⟨fun _ => ?_, hK _ ?_⟩; ((go_at_call 36; first | exact calm_of (l_eqAreaRow l[k] _) | exact calm_add (l_eqAreaRow l[k] _))); clear hK K))))); all_goals (refine wpQuiet_nil ?_; intro _ hw'; obtain ⟨gq, hw''⟩ := hw'; subst hw''))
      go_wp2
      go_roundw
      case rel => exact ⟨k + 1, by omega, by go_num, by (repeat (first | with_reducible exact grew_refl _ | with_reducible assumption | with_reducible refine grew_split ?_ | with_reducible refine grew_mk ?_ | with_reducible refine grew_plus ?_ | with_reducible refine grew_alloc ?_ | with_reducible refine grew_drew ?_ | (with_reducible refine grew_set ?_ (by first | exact Nat.le_refl _ | omega | (simp [go_sem]; done) | (simp [go_sem]; omega)))))⟩
      case measure => simp [intOf]; omega
    · go_wp2
      go_ret
      exact ⟨rfl, by (repeat (first | with_reducible exact grew_refl _ | with_reducible assumption | with_reducible refine grew_split ?_ | with_reducible refine grew_mk ?_ | with_reducible refine grew_plus ?_ | with_reducible refine grew_alloc ?_ | with_reducible refine grew_drew ?_ | (with_reducible refine grew_set ?_ (by first | exact Nat.le_refl _ | omega | (simp [go_sem]; done) | (simp [go_sem]; omega)))))⟩
set_option maxHeartbeats 1000000 in
theorem l_szAreaRowS (l : List AreaR) (A : Option Addr) (c : Nat) (n : Int) (w : World) (hA : Sl w 6 AreaR.row A l) (hl : l.length ≤ maxLen) (hs : ∀ r ∈ l, r.nm.size ≤ maxLen) (h0 : 0 ≤ n) (h1 : n ≤ 1048576) :
    Calls Tryd.prog 5 #[.slice A l.length c, .int .i64 n] w fun e' w' => (∃ k, e' = .returned (.int .i64 k) ∧ -1 ≤ k ∧ (0 ≤ k → l.length ≤ 1048576)) ∧ ∃ g, w' = plus w g := by
  unfold maxLen at hl
  go_enter Tryd.func5, Tryd.ntmps5
  go_wp2_with fail
  · go_ret
    exact ⟨⟨_, rfl, by omega, by omega⟩, by (repeat (first | with_reducible exact grew_refl _ | with_reducible assumption | with_reducible refine grew_split ?_ | with_reducible refine grew_mk ?_ | with_reducible refine grew_plus ?_ | with_reducible refine grew_alloc ?_ | with_reducible refine grew_drew ?_ | (with_reducible refine grew_set ?_ (by first | exact Nat.le_refl _ | omega | (simp [go_sem]; done) | (simp [go_sem]; omega)))))⟩
  have hle : l.length ≤ 1048576 := by omega
  go_loopw [5, 1] (fun i n wr => ∃ k : Nat, k ≤ l.length ∧ i = .int .i64 k ∧ (∃ m, n = .int .i64 m ∧ 0 ≤ m ∧ m ≤ 1048576) ∧ (∃ g, wr = plus w g)) (fun i _ _ => l.length - (intOf i).toNat)
  case atStart => exact ⟨0, Nat.zero_le _, rfl, ⟨_, rfl, by omega, by omega⟩, _, plus_refl _⟩
  case round =>
    obtain ⟨k, hk, rfl, ⟨m, rfl, hm0, hm1⟩, g, rfl⟩ := hrel
    by_cases hlt : k < l.length
    · obtain ⟨b, off, rfl, hb, hc⟩ := hA.at_ hlt
      obtain ⟨hc0, hc1, hc2, hc3, hc4, hc5⟩ := AreaR.cells6 hc hlt
      have hsk := hs l[k] (List.getElem_mem hlt)
      clear hc hA hs
      go_wp2_with (go_at_call 28; refine (l_szAreaRow l[k] _ _ hsk (by omega) (by omega)).mono ?_; rintro e w' ⟨⟨kz, rfl, hkz, hkz'⟩, gx, rfl⟩)
      all_goals first
        | (go_roundw
           case rel => exact ⟨k + 1, by omega, by go_num, ⟨_, rfl, by omega, by omega⟩, by (repeat (first | with_reducible exact grew_refl _ | with_reducible assumption | with_reducible refine grew_split ?_ | with_reducible refine grew_mk ?_ | with_reducible refine grew_plus ?_ | with_reducible refine grew_alloc ?_ | with_reducible refine grew_drew ?_ | (with_reducible refine grew_set ?_ (by first | exact Nat.le_refl _ | omega | (simp [go_sem]; done) | (simp [go_sem]; omega)))))⟩
           case measure => simp [intOf]; omega)
        | (go_ret
           exact ⟨⟨_, rfl, by omega, by omega⟩, by (repeat (first | with_reducible exact grew_refl _ | with_reducible assumption | with_reducible refine grew_split ?_ | with_reducible refine grew_mk ?_ | with_reducible refine grew_plus ?_ | with_reducible refine grew_alloc ?_ | with_reducible refine grew_drew ?_ | (with_reducible refine grew_set ?_ (by first | exact Nat.le_refl _ | omega | (simp [go_sem]; done) | (simp [go_sem]; omega)))))⟩)
    · go_wp2
      go_ret
      exact ⟨⟨_, rfl, by omega, fun _ => hle⟩, by (repeat (first | with_reducible exact grew_refl _ | with_reducible assumption | with_reducible refine grew_split ?_ | with_reducible refine grew_mk ?_ | with_reducible refine grew_plus ?_ | with_reducible refine grew_alloc ?_ | with_reducible refine grew_drew ?_ | (with_reducible refine grew_set ?_ (by first | exact Nat.le_refl _ | omega | (simp [go_sem]; done) | (simp [go_sem]; omega)))))⟩
theorem area_info : (Tryd.prog.info? 40).map (fun i => (i.zero, i.size, i.bytes)) = some (some (.agg #[.string ByteArray.empty, .int .i64 0, .int .i64 0, .int .i64 0, .int .i64 0, .int .i64 0]), 6, 56) := by kernel_rfl
set_option maxHeartbeats 1000000 in
theorem l_toAreaRowS (l : List AreaR) (A : Option Addr) (c : Nat) (w : World) (hA : Sl w 6 AreaR.row A l) (hl : l.length * 56 ≤ 140737488355328) :
    Calls Tryd.prog 7 #[.slice A l.length c] w fun e' w' => (∃ g cs, e' = .returned (.slice (some ⟨g, 0, none⟩) l.length l.length) ∧ w.heap.size ≤ g ∧ Blk w' g 40 cs ∧ cs.size = l.length * 6 ∧ Filled cs 6 AreaR.row l l.length) ∧ ∃ g, w' = plus w g := by
  obtain ⟨i0, hi0, hz0, hz1, hz2⟩ := info_parts area_info
  have hmk : ∀ W : World, (Instr.makeSlice 26 (.int .i64 (l.length : Int)) (.int .i64 (l.length : Int))).run Tryd.prog W = .ok (.slice (some ⟨W.heap.size, 0, none⟩) l.length l.length) (W.alloc (.cells (madeCells _ (l.length * 6)) 40)) := fun W => by
    rcases run_make_rowN (P := Tryd.prog) 26 40 i0 _ Tryd.underlying26 hi0 hz0 l.length (by rw [hz2]; omega) W with h | h
    · rw [hz1] at h; exact h
    · rw [hz2] at h; cases h
  go_enter Tryd.func7, Tryd.ntmps7
  go_wp2_with fail
  go_loopw [4] (fun i wr => ∃ (k : Nat) (cs : Array Value), k ≤ l.length ∧ i = .int .i64 k ∧ Blk wr w.heap.size 40 cs ∧ cs.size = l.length * 6 ∧ Filled cs 6 AreaR.row l k ∧ ∃ g, wr = plus w g) (fun i _ => l.length - (intOf i).toNat)
  case atStart => exact ⟨0, _, Nat.zero_le _, rfl, Blk.new _ _ _, size_madeCells _ _, Filled.zero _ _ _ _, by (repeat (first | with_reducible exact grew_refl _ | with_reducible assumption | with_reducible refine grew_split ?_ | with_reducible refine grew_mk ?_ | with_reducible refine grew_plus ?_ | with_reducible refine grew_alloc ?_ | with_reducible refine grew_drew ?_ | (with_reducible refine grew_set ?_ (by first | exact Nat.le_refl _ | omega | (simp [go_sem]; done) | (simp [go_sem]; omega)))))⟩
  case round =>
    obtain ⟨k, cs, hk, rfl, hB, hsz, hF, hg⟩ := hrel
    have hAr : Sl wr 6 AreaR.row A l := hA.below (below_of_grew hg)
    have HG := hid hg
    have HS := hid hsz
    have HF := hid hF
    have HB := hid hB
    clear hg hF
    by_cases hlt : k < l.length
    · obtain ⟨b, off, rfl, hb, hc⟩ := hAr.at_ hlt
      obtain ⟨hc0, hc1, hc2, hc3, hc4, hc5⟩ := AreaR.cells6 hc hlt
      have hG := hB.lt
      obtain ⟨⟨_, hz0⟩, ⟨_, hz1⟩, ⟨_, hz2⟩, ⟨_, hz3⟩, ⟨_, hz4⟩, ⟨_, hz5⟩, hzf0, hzf1, hzf2, hzf3, hzf4, hzf5⟩ := hB.some6 (k * 6) (by omega)
      clear hc hAr hA hB hsz
      go_wp2_with (go_at_call 33; refine (l_toAreaRow l[k] _).mono ?_; (rintro e w' ⟨rfl, gx, rfl⟩))
      go_roundw
      case rel =>
        have h1 := HF.out.step hlt (fun _ _ => rfl) (by rw [HS.out]; omega)
        have h2 := (HB.out.put6 (k * 6) (.string l[k].nm) (.int .i64 l[k].cells) (.int .i64 l[k].cov) (.int .i64 l[k].least) (.int .i64 l[k].spread) (.int .i64 l[k].minutes)).plus gx
        have HG := HG.out
        exact ⟨k + 1, _, by omega, by go_num, h2, by rw [size_put]; exact HS.out, h1, by (repeat (first | with_reducible exact grew_refl _ | with_reducible assumption | with_reducible refine grew_split ?_ | with_reducible refine grew_mk ?_ | with_reducible refine grew_plus ?_ | with_reducible refine grew_alloc ?_ | with_reducible refine grew_drew ?_ | (with_reducible refine grew_set ?_ (by first | exact Nat.le_refl _ | omega | (simp [go_sem]; done) | (simp [go_sem]; omega)))))⟩
      case measure => simp [intOf]; omega
    · obtain rfl : k = l.length := by omega
      clear hB hsz
      go_wp2
      go_ret
      exact ⟨⟨_, cs, rfl, Nat.le_refl _, HB.out, HS.out, HF.out⟩, HG.out⟩
end Go.Proofs.YteogidghoohgaaaDoor
