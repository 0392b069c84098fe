/- A copy of a day, in both packages. -/
import Derived.Test.YtcljcbbkbepmjaaDoorD6
import Derived.Test.YtcljcbbkbepmjaaDoorAp2
import Derived.Deep.RegionHeldLaw
namespace Go.Proofs.YtcljcbbkbepmjaaDoor
open Go.RowKit

set_option maxHeartbeats 2000000 in
theorem i_newDay (v : DayV) (w : World) (hv : v.At w) (h0 : 0 < v.core.lines.length) (h8 : v.core.lines.length ≤ 8) :
    Calls Tryd.prog 36 #[v.val] w fun e w' => (∃ A' c', e = .returned (DayV.val ⟨v.core, A', c'⟩) ∧ OwnF w.heap.size 44 2 LineR.row w' A' v.core.lines) ∧ ∃ g, w' = plus w g := by
  have HV := hid hv
  obtain ⟨b, off, hA, hb, _⟩ := hv.ln.at_ h0
  clear hv
  obtain ⟨⟨minute, state, lines, line, since, cast, fuel⟩, A, c⟩ := v
  simp only at hA h0 h8 ⊢
  subst hA
  have HL := hid HV.out.ln
  go_enter Tryd.func36, Tryd.ntmps36
  go_wp2_with (at_builtin; go_loud (refine wpList_appAll (B := w.heap.size + 1 + 1) rfl _ _ _ rfl 44 2 16 _ Tryd.underlying24 newline_info rfl (by omega) (by omega) (fun _ => rfl) LineR.one _ 0 [] 0 rfl rfl (Own.new rfl (by simp) (by simp)) (by simp) (by simp) _ _ lines rfl (HL.out.grew (by (repeat (first | with_reducible exact grew_refl _ | with_reducible assumption | with_reducible refine grew_split ?_ | with_reducible refine grew_mk ?_ | with_reducible refine grew_plus ?_ | with_reducible refine grew_alloc ?_ | with_reducible refine grew_drew ?_ | (with_reducible refine grew_set ?_ (by first | exact Nat.le_refl _ | omega | (simp [go_sem]; done) | (simp [go_sem]; omega))))))) h0 (by omega) ?_); intro A1 c1 w1 hO1 hg1 hat1; have hb0 := blk_kept (((blk_new (w := w) (b := w.heap.size) rfl).alloc _).alloc _) hg1 (by intro a ha; injection ha with ha; subst ha; simp <;> omega); have hb1 := blk_kept ((blk_new (b := w.heap.size + 1) (by simp)).alloc _) hg1 (by intro a ha; injection ha with ha; subst ha; simp); (have hp0 := hb0.cell 0; have hp1 := hb0.cell 1; have hp2 := hb0.cell 2; have hp3 := hb0.cell 3; have hp4 := hb0.cell 4; have hp5 := hb0.cell 5; have hp6 := hb0.cell 6; simp [go_sem] at hp0 hp1 hp2 hp3 hp4 hp5 hp6); (have hq0 := hb1.cell 0; have hq1 := hb1.cell 1; have hq2 := hb1.cell 2; have hq3 := hb1.cell 3; have hq4 := hb1.cell 4; have hq5 := hb1.cell 5; have hq6 := hb1.cell 6; simp [go_sem] at hq0 hq1 hq2 hq3 hq4 hq5 hq6); have hf0 := hb0.frozen 2; have hr0 := hb1.frozen 0; have hr1 := hb1.frozen 1; have hr2 := hb1.frozen 2; have hr3 := hb1.frozen 3; have hr4 := hb1.frozen 4; have hr5 := hb1.frozen 5; have hr6 := hb1.frozen 6; have HO1 := hid hO1; have HG1 := hid hg1; have HA1 := hid hat1; clear hO1 hg1 hat1 hb0 hb1)
  have hn0 : ∀ a, A1 = some a → a.block ≠ w.heap.size := fun a ha => by
    rcases HA1.out a ha with ⟨a0, h1, h2⟩ | h2
    · injection h1 with h1; subst h1; simp at h2; omega
    · rw [h2]; simp; omega
  have hn1 : ∀ a, A1 = some a → a.block ≠ w.heap.size + 1 := fun a ha => by
    rcases HA1.out a ha with ⟨a0, h1, h2⟩ | h2
    · injection h1 with h1; subst h1; simp at h2; omega
    · rw [h2]; simp; omega
  have hw1 := grew_own (w0 := w) (by (repeat (first | with_reducible exact grew_refl _ | with_reducible assumption | with_reducible refine grew_split ?_ | with_reducible refine grew_mk ?_ | with_reducible refine grew_plus ?_ | with_reducible refine grew_alloc ?_ | with_reducible refine grew_drew ?_ | (with_reducible refine grew_set ?_ (by first | exact Nat.le_refl _ | omega | (simp [go_sem]; done) | (simp [go_sem]; omega)))))) HG1.out (by intro a ha; injection ha with ha; subst ha; simp <;> omega)
  refine bodyPost_ret (v := DayV.val ⟨⟨minute, state, lines, line, since, cast, fuel⟩, A1, c1⟩) (by simp [results, Tryd.results36, go_sem, *]) rfl ?_
  refine ⟨⟨A1, ⟨c1, rfl⟩, ?_⟩, by (repeat (first | with_reducible exact grew_refl _ | with_reducible assumption | with_reducible refine grew_split ?_ | with_reducible refine grew_mk ?_ | with_reducible refine grew_plus ?_ | with_reducible refine grew_alloc ?_ | with_reducible refine grew_drew ?_ | (with_reducible refine grew_set ?_ (by first | exact Nat.le_refl _ | omega | (simp [go_sem]; done) | (simp [go_sem]; omega)))))⟩
  have h := HO1.out
  rw [List.nil_append] at h
  exact (((((((((h.setFar hn0).setFar hn1).setFar hn1).setFar hn1).setFar hn1).setFar hn1).setFar hn1).setFar hn1).f (fun _ => rfl)).less (by omega)
set_option maxHeartbeats 2000000 in
theorem s_l25Own (v : DayV) (w : World) (hv : v.At w) (h0 : 0 < v.core.lines.length) (h8 : v.core.lines.length ≤ 8) :
    Calls Tryd.prog 72 #[v.val] w fun e w' => (∃ A' c', e = .returned (DayV.val ⟨v.core, A', c'⟩) ∧ OwnF w.heap.size 44 2 LineR.row w' A' v.core.lines) ∧ ∃ g, w' = plus w g := by
  have HV := hid hv
  obtain ⟨b, off, hA, hb, _⟩ := hv.ln.at_ h0
  clear hv
  obtain ⟨⟨minute, state, lines, line, since, cast, fuel⟩, A, c⟩ := v
  simp only at hA h0 h8 ⊢
  subst hA
  have HL := hid HV.out.ln
  go_enter Tryd.func72, Tryd.ntmps72
  go_wp2_with fail
  go_region_held_law (fun w' => w'.cell? ⟨w.heap.size, 0, none⟩ = some (.int .i64 minute) ∧ w'.cell? ⟨w.heap.size, 1, none⟩ = some (.int .i64 state) ∧ w'.cell? ⟨w.heap.size, 2, none⟩ = some (.slice (some ⟨b, off, none⟩) lines.length c) ∧ w'.cell? ⟨w.heap.size, 3, none⟩ = some (.int .i64 line) ∧ w'.cell? ⟨w.heap.size, 4, none⟩ = some (.int .i64 since) ∧ w'.cell? ⟨w.heap.size, 5, none⟩ = some (.int .i64 cast) ∧ w'.cell? ⟨w.heap.size, 6, none⟩ = some (.int .i64 fuel)) (first | go_keep | exact ⟨hp0, hp1, hp2, hp3, hp4, hp5, hp6⟩) ((refine step_appAll (B := w.heap.size + 1 + 1) (by rfl) _ _ _ (by rfl) 44 2 16 _ Tryd.underlying24 newline_info rfl (by omega) (by omega) (fun _ => rfl) LineR.one _ 0 [] 0 rfl (by rfl) (Own.newIn (o := .cells #[] 44) (by (repeat (first | with_reducible exact grew_refl _ | with_reducible assumption | with_reducible refine grew_split ?_ | with_reducible refine grew_mk ?_ | with_reducible refine grew_plus ?_ | with_reducible refine grew_alloc ?_ | with_reducible refine grew_drew ?_ | (with_reducible refine grew_set ?_ (by first | exact Nat.le_refl _ | omega | (simp [go_sem]; done) | (simp [go_sem]; omega)))))) rfl (by simp) (by simp)) (by simp) (by simp) _ _ lines (by rfl) (HL.out.grew (by (repeat (first | with_reducible exact grew_refl _ | with_reducible assumption | with_reducible refine grew_split ?_ | with_reducible refine grew_mk ?_ | with_reducible refine grew_plus ?_ | with_reducible refine grew_alloc ?_ | with_reducible refine grew_drew ?_ | (with_reducible refine grew_set ?_ (by first | exact Nat.le_refl _ | omega | (simp [go_sem]; done) | (simp [go_sem]; omega))))))) h0 (by omega) ?_; intro A1 c1 w1 hO1 hg1 hat1; have hb0 := blk_kept (blk_grew (blk_new (w := w) (b := w.heap.size) rfl) (by (repeat (first | with_reducible exact grew_refl _ | with_reducible assumption | with_reducible refine grew_split ?_ | with_reducible refine grew_mk ?_ | with_reducible refine grew_plus ?_ | with_reducible refine grew_alloc ?_ | with_reducible refine grew_drew ?_ | (with_reducible refine grew_set ?_ (by first | exact Nat.le_refl _ | omega | (simp [go_sem]; done) | (simp [go_sem]; omega))))))) hg1 (by intro a ha; injection ha with ha; subst ha; simp <;> omega); have hb1 := blk_kept (blk_grew (blk_new (w := w.alloc _) (b := w.heap.size + 1) (by simp)) (by (repeat (first | with_reducible exact grew_refl _ | with_reducible assumption | with_reducible refine grew_split ?_ | with_reducible refine grew_mk ?_ | with_reducible refine grew_plus ?_ | with_reducible refine grew_alloc ?_ | with_reducible refine grew_drew ?_ | (with_reducible refine grew_set ?_ (by first | exact Nat.le_refl _ | omega | (simp [go_sem]; done) | (simp [go_sem]; omega))))))) hg1 (by intro a ha; injection ha with ha; subst ha; simp); (have hp0 := hb0.cell 0; have hp1 := hb0.cell 1; have hp2 := hb0.cell 2; have hp3 := hb0.cell 3; have hp4 := hb0.cell 4; have hp5 := hb0.cell 5; have hp6 := hb0.cell 6; simp [go_sem] at hp0 hp1 hp2 hp3 hp4 hp5 hp6); (have hq0 := hb1.cell 0; have hq1 := hb1.cell 1; have hq2 := hb1.cell 2; have hq3 := hb1.cell 3; have hq4 := hb1.cell 4; have hq5 := hb1.cell 5; have hq6 := hb1.cell 6; simp [go_sem] at hq0 hq1 hq2 hq3 hq4 hq5 hq6); have hr0 := hb1.frozen 0; have hr1 := hb1.frozen 1; have hr2 := hb1.frozen 2; have hr3 := hb1.frozen 3; have hr4 := hb1.frozen 4; have hr5 := hb1.frozen 5; have hr6 := hb1.frozen 6; clear hb0 hb1; have HO1 := hid hO1; have HG1 := hid hg1; have HA1 := hid hat1; clear hO1 hg1 hat1))
  go_wp2_with fail
  have hn1 : ∀ a, A1 = some a → a.block ≠ w.heap.size + 1 := fun a ha => by
    rcases HA1.out a ha with ⟨a0, h1, h2⟩ | h2
    · injection h1 with h1; subst h1; simp at h2; omega
    · rw [h2]; simp; try omega
  have hw1 := grew_own (w0 := w) (by (repeat (first | with_reducible exact grew_refl _ | with_reducible assumption | with_reducible refine grew_split ?_ | with_reducible refine grew_mk ?_ | with_reducible refine grew_plus ?_ | with_reducible refine grew_alloc ?_ | with_reducible refine grew_drew ?_ | (with_reducible refine grew_set ?_ (by first | exact Nat.le_refl _ | omega | (simp [go_sem]; done) | (simp [go_sem]; omega)))))) HG1.out (by intro a ha; injection ha with ha; subst ha; simp <;> omega)
  refine bodyPost_ret (v := DayV.val ⟨⟨minute, state, lines, line, since, cast, fuel⟩, A1, c1⟩) (by simp [results, Tryd.results72, go_sem, *]) rfl ?_
  refine ⟨⟨A1, c1, rfl, ?_⟩, by (repeat (first | with_reducible exact grew_refl _ | with_reducible assumption | with_reducible refine grew_split ?_ | with_reducible refine grew_mk ?_ | with_reducible refine grew_plus ?_ | with_reducible refine grew_alloc ?_ | with_reducible refine grew_drew ?_ | (with_reducible refine grew_set ?_ (by first | exact Nat.le_refl _ | omega | (simp [go_sem]; done) | (simp [go_sem]; omega)))))⟩
  have h := HO1.out
  rw [List.nil_append] at h
  exact ((((((((h.setFar hn1).setFar hn1).setFar hn1).setFar hn1).setFar hn1).setFar hn1).setFar hn1).f (fun _ => rfl)).less (by omega)
end Go.Proofs.YtcljcbbkbepmjaaDoor
