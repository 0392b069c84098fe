/- A new day, in both packages. -/
import Derived.Test.YtcljcbbkbepmjaaDoorD2
import Derived.Test.YtcljcbbkbepmjaaDoorM1
import Derived.Deep.RegionLaw
namespace Go.Proofs.YtcljcbbkbepmjaaDoor
open Go.RowKit

theorem newline_info : (Tryd.prog.info? 44).map (fun i => (i.zero, i.size, i.bytes)) = some (some (.agg #[.int .i64 0, .bool false]), 2, 16) := by kernel_rfl
def newLn (n : Int) : LineR := ⟨n, false⟩
def newC (ms : List Int) (fuel : Int) : DayC := ⟨0, 0, ms.map newLn, 0, 0, -1, fuel⟩
def noDay : DayC := ⟨0, 0, [], 0, 0, 0, 0⟩
def newF (ms : List Int) (fuel : Int) : DayC := if (newC ms fuel).ok then newC ms fuel else noDay
theorem newC_long {ms : List Int} {fuel : Int} (h : 8 < ms.length) : (newC ms fuel).ok = false :=
  DayC.no_pre (by simp [DayC.pre, newC, inB]; omega)
theorem newLn_step {ms : List Int} {k : Nat} (hk : k < ms.length) : (ms.take (k + 1)).map newLn = (ms.take k).map newLn ++ [newLn ms[k]] := by
  rw [List.take_succ_eq_append_getElem hk, List.map_append]; rfl
theorem LineR.one (r : LineR) : ∀ u ∈ r.row, u.oneCell' = true := by
  intro u hu
  simp [LineR.row] at hu
  rcases hu with rfl | rfl <;> rfl
set_option maxHeartbeats 2000000 in
theorem s_NewSurveyDay (ms : List Int) (A : Option Addr) (c : Nat) (fuel : Int) (w : World) (hA : Sl w 1 intRow A ms) (hl : ms.length ≤ 1048576) :
    Calls Tryd.prog 39 #[.slice A ms.length c, .int .i64 fuel] w fun e w' => (∃ A' c', e = .returned (.tuple #[DayV.val ⟨newF ms fuel, A', c'⟩, .bool (newC ms fuel).ok]) ∧ OwnF w.heap.size 44 2 LineR.row w' A' (newF ms fuel).lines) ∧ ∃ g, w' = plus w g := by
  have HA := hid hA
  clear hA
  go_enter Tryd.func39, Tryd.ntmps39
  go_wp2_with fail
  go_loopw [7] (fun i wr => ∃ (k : Nat) (A' : Option Addr) (c' : Nat), k ≤ ms.length ∧ i = .int .i64 k ∧ Own (w.heap.size + 1) 44 2 LineR.row wr A' c' ((ms.take k).map newLn) ∧ (∀ a, A' = some a → a.block ≠ w.heap.size + 1 + 1) ∧
    Blk wr w.heap.size 26 #[.int .i64 0, .int .i64 0, .slice none 0 0, .int .i64 0, .int .i64 0, .int .i64 0, .int .i64 0] ∧
    Blk wr (w.heap.size + 1 + 1) 26 #[.int .i64 0, .int .i64 0, .slice A' k c', .int .i64 0, .int .i64 0, .int .i64 (-1), .int .i64 fuel] ∧ ∃ g, wr = plus w g) (fun i _ => ms.length - (intOf i).toNat)
  case atStart =>
    exact ⟨0, _, _, Nat.zero_le _, rfl, Own.newIn (o := .cells #[] 44) (by (repeat (first | with_reducible exact grew_refl _ | with_reducible assumption | with_reducible refine grew_split ?_ | with_reducible refine grew_mk ?_ | with_reducible refine grew_plus ?_ | with_reducible refine grew_alloc ?_ | with_reducible refine grew_drew ?_ | (with_reducible refine grew_set ?_ (by first | exact Nat.le_refl _ | omega | (simp [go_sem]; done) | (simp [go_sem]; omega)))))) rfl (by simp) (by simp), (fun a ha => by injection ha with ha; subst ha; simp), ((blk_new rfl).alloc _).alloc _, blk_new (by simp), by (repeat (first | with_reducible exact grew_refl _ | with_reducible assumption | with_reducible refine grew_split ?_ | with_reducible refine grew_mk ?_ | with_reducible refine grew_plus ?_ | with_reducible refine grew_alloc ?_ | with_reducible refine grew_drew ?_ | (with_reducible refine grew_set ?_ (by first | exact Nat.le_refl _ | omega | (simp [go_sem]; done) | (simp [go_sem]; omega)))))⟩
  case round =>
    obtain ⟨k, A', c', hk, rfl, hO, hne, hR, hD, hg⟩ := hrel
    have HO := hid hO
    have HN := hid hne
    have HR := hid hR
    have HD := hid hD
    have HG := hid hg
    have hS : w.heap.size + 1 + 1 < wr.heap.size := hD.lt
    have hd0 := hD.cell 0
    have hd1 := hD.cell 1
    have hd2 := hD.cell 2
    have hd3 := hD.cell 3
    have hd4 := hD.cell 4
    have hd5 := hD.cell 5
    have hd6 := hD.cell 6
    simp at hd0 hd1 hd2 hd3 hd4 hd5 hd6
    clear hO hne hR hD hg
    by_cases hlt : k < ms.length
    · obtain ⟨b, off, rfl, hb, hc⟩ := (HA.out.grew HG.out).at_ hlt
      have hc0 := icells hc hlt
      clear hc
      go_wp2_with fail
      go_region_law ((refine step_appB (B := w.heap.size + 1) (by rfl) _ _ _ (by rfl) 44 2 16 _ Tryd.underlying24 newline_info rfl (by omega) (by omega) A' c' ((ms.take k).map newLn) k (by simp; omega) (by rfl) (HO.out.grew (by (repeat (first | with_reducible exact grew_refl _ | with_reducible assumption | with_reducible refine grew_split ?_ | with_reducible refine grew_mk ?_ | with_reducible refine grew_plus ?_ | with_reducible refine grew_alloc ?_ | with_reducible refine grew_drew ?_ | (with_reducible refine grew_set ?_ (by first | exact Nat.le_refl _ | omega | (simp [go_sem]; done) | (simp [go_sem]; omega))))))) (by simp; omega) (by simp; omega) _ (newLn ms[k]) _ (by rfl) rfl (by intro j u hj; match j, hj with | 0, hj => simp [LineR.row, newLn] at hj; subst hj; simp [Addr.add, go_sem] | 1, hj => simp [LineR.row, newLn] at hj; subst hj; simp [Addr.add, go_sem]) (LineR.one _) ?_; intro A1 c1 w1 hO1 hg1 hat1; have hB1 := blk_kept (blk_grew HD.out (by (repeat (first | with_reducible exact grew_refl _ | with_reducible assumption | with_reducible refine grew_split ?_ | with_reducible refine grew_mk ?_ | with_reducible refine grew_plus ?_ | with_reducible refine grew_alloc ?_ | with_reducible refine grew_drew ?_ | (with_reducible refine grew_set ?_ (by first | exact Nat.le_refl _ | omega | (simp [go_sem]; done) | (simp [go_sem]; omega))))))) hg1 HN.out; have hz2 := hB1.cell 2; have hf2 := hB1.frozen 2; simp at hz2; have HB1 := hid hB1; have HO1 := hid hO1; have HG1 := hid hg1; have HA1 := hid hat1; clear hB1 hO1 hg1 hat1))
      all_goals
        go_wp2
        go_roundw
        case rel =>
          have hr1 := blk_kept (blk_grew HR.out (by (repeat (first | with_reducible exact grew_refl _ | with_reducible assumption | with_reducible refine grew_split ?_ | with_reducible refine grew_mk ?_ | with_reducible refine grew_plus ?_ | with_reducible refine grew_alloc ?_ | with_reducible refine grew_drew ?_ | (with_reducible refine grew_set ?_ (by first | exact Nat.le_refl _ | omega | (simp [go_sem]; done) | (simp [go_sem]; omega))))))) HG1.out (fun a ha => by have := (HO.out.ne a ha).1; omega)
          have hw1 := grew_own (w0 := w) (by have := HG.out; (repeat (first | with_reducible exact grew_refl _ | with_reducible assumption | with_reducible refine grew_split ?_ | with_reducible refine grew_mk ?_ | with_reducible refine grew_plus ?_ | with_reducible refine grew_alloc ?_ | with_reducible refine grew_drew ?_ | (with_reducible refine grew_set ?_ (by first | exact Nat.le_refl _ | omega | (simp [go_sem]; done) | (simp [go_sem]; omega)))))) HG1.out (fun a ha => by have := (HO.out.ne a ha).1; omega)
          have hn1 : ∀ a, A1 = some a → a.block ≠ w.heap.size + 1 + 1 := fun a ha => by
            rcases HA1.out a ha with ⟨a0, h1, h2⟩ | h2
            · rw [← h2]; exact HN.out a0 h1
            · rw [h2]; simp; omega
          have hO2 := HO1.out
          rw [← newLn_step hlt] at hO2
          refine ⟨k + 1, A1, c1, by omega, by go_num, hO2.setFar (fun a ha => hn1 a ha), hn1, hr1.far (by simp; omega) _, HB1.out.set_ 2 _, grew_set hw1 (by omega)⟩
        case measure => simp [intOf]; omega
    · obtain rfl : k = ms.length := by omega
      have hr0 := HR.out.cell 0
      have hr1 := HR.out.cell 1
      have hr2 := HR.out.cell 2
      have hr3 := HR.out.cell 3
      have hr4 := HR.out.cell 4
      have hr5 := HR.out.cell 5
      have hr6 := HR.out.cell 6
      simp at hr0 hr1 hr2 hr3 hr4 hr5 hr6
      have hq0 := HR.out.frozen 0
      have hq1 := HR.out.frozen 1
      have hq2 := HR.out.frozen 2
      have hq3 := HR.out.frozen 3
      have hq4 := HR.out.frozen 4
      have hq5 := HR.out.frozen 5
      have hq6 := HR.out.frozen 6
      have hSR : w.heap.size < wr.heap.size := HR.out.lt
      have hO1 : Own (w.heap.size + 1) 44 2 LineR.row wr A' c' (newC ms fuel).lines := by have := HO.out; rw [List.take_length] at this; exact this
      have HO1 := hid hO1
      have hv : DayV.At wr ⟨newC ms fuel, A', c'⟩ := ⟨hO1.sl (fun _ => rfl), by simp [newC]; unfold maxLen; omega⟩
      clear hO1
      cases hok : (newC ms fuel).ok
      · have HK := hid hok
        have hcall := s_l25Good ⟨newC ms fuel, A', c'⟩ _ hok wr hv
        simp only [DayV.val, newC, List.length_map] at hcall
        have HCALL := hid hcall
        clear hcall hv hok
        go_wp2_with fail
        refine HCALL.out.mono ?_
        (rintro e w' ⟨rfl, gx, rfl⟩)
        go_wp2_with fail
        refine bodyPost_ret (v := .tuple #[DayV.val ⟨noDay, none, 0⟩, .bool false]) (by simp [results, Tryd.results39, go_sem, noDay, *]) rfl ?_
        have HG := HG.out
        exact ⟨⟨none, 0, by simp [newF, HK.out], by simp [newF, HK.out, noDay]; exact .inl rfl⟩, by (repeat (first | with_reducible exact grew_refl _ | with_reducible assumption | with_reducible refine grew_split ?_ | with_reducible refine grew_mk ?_ | with_reducible refine grew_plus ?_ | with_reducible refine grew_alloc ?_ | with_reducible refine grew_drew ?_ | (with_reducible refine grew_set ?_ (by first | exact Nat.le_refl _ | omega | (simp [go_sem]; done) | (simp [go_sem]; omega)))))⟩
      · have HK := hid hok
        have hcall := s_l25Good ⟨newC ms fuel, A', c'⟩ _ hok wr hv
        simp only [DayV.val, newC, List.length_map] at hcall
        have HCALL := hid hcall
        clear hcall hv hok
        go_wp2_with fail
        refine HCALL.out.mono ?_
        (rintro e w' ⟨rfl, gx, rfl⟩)
        go_wp2_with fail
        refine bodyPost_ret (v := .tuple #[DayV.val ⟨newC ms fuel, A', c'⟩, .bool true]) (by simp [results, Tryd.results39, go_sem, newC, *]) rfl ?_
        have HG := HG.out
        refine ⟨⟨A', c', by simp [newF, HK.out], ?_⟩, by (repeat (first | with_reducible exact grew_refl _ | with_reducible assumption | with_reducible refine grew_split ?_ | with_reducible refine grew_mk ?_ | with_reducible refine grew_plus ?_ | with_reducible refine grew_alloc ?_ | with_reducible refine grew_drew ?_ | (with_reducible refine grew_set ?_ (by first | exact Nat.le_refl _ | omega | (simp [go_sem]; done) | (simp [go_sem]; omega)))))⟩
        have hfar : ∀ a, A' = some a → a.block ≠ w.heap.size := fun a ha => by have := (HO1.out.ne a ha).1; omega
        rw [show (newF ms fuel).lines = (newC ms fuel).lines by simp [newF, HK.out]]
        exact (((((((((HO1.out.setFar hfar).setFar hfar).setFar hfar).setFar hfar).setFar hfar).setFar hfar).setFar hfar).f (fun _ => rfl)).less (by omega)).grew (grew_plus (grew_refl _))
end Go.Proofs.YtcljcbbkbepmjaaDoor
