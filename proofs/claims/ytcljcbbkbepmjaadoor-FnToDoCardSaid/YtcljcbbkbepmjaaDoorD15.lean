/- What a valid step makes of a day, in the reference: ending a line. -/
import Derived.Test.YtcljcbbkbepmjaaDoorD11
import Derived.Test.YtcljcbbkbepmjaaDoorD10
namespace Go.Proofs.YtcljcbbkbepmjaaDoor
open Go.RowKit

theorem filled_same {α : Type} {cs : Array Value} {s : Nat} {cells : α → List Value} {l : List α} {i : Nat} {u : Value} (hF : Filled cs s cells l l.length) (hu : cs[i]? = some u) : Filled (cs.setIfInBounds i u) s cells l l.length := by
  intro k hk h q v hv
  rw [Array.getElem?_setIfInBounds]
  have h1 := hF k hk h q v hv
  by_cases hi : i = k * s + q
  · subst hi
    rw [hu] at h1
    have hlt := (Array.getElem?_eq_some_iff.1 hu).1
    rw [if_pos rfl, if_pos hlt]
    exact h1
  · rw [if_neg hi]; exact h1
set_option maxHeartbeats 4000000 in
set_option maxRecDepth 10000 in
theorem s_make5 (minute state : Int) (lines : List LineR) (line since cast fuel : Int) (A : Option Addr) (c : Nat) (x : Int) (p : DayC × Bool) (hp : stepF ⟨minute, state, lines, line, since, cast, fuel⟩ 5 x = p) (w : World) (hok : DayC.ok ⟨minute, state, lines, line, since, cast, fuel⟩ = true) (hs : stepB ⟨minute, state, lines, line, since, cast, fuel⟩ 5 x = true) (hv : DayV.At w ⟨⟨minute, state, lines, line, since, cast, fuel⟩, A, c⟩) :
    Calls Tryd.prog 59 #[DayV.val ⟨⟨minute, state, lines, line, since, cast, fuel⟩, A, c⟩, .agg #[.int .i64 5, .int .i64 x]] w fun e w' => MakePost w.heap.size p e w' ∧ ∃ g, w' = plus w g := by
  have HV := hid hv
  have HK := hid hok
  obtain ⟨b1, b2, b3, b4, b5, b6, b7, b8, b9, b10, b11, b12, b13, b14⟩ := DayC.bounds hok
  clear hv hok
  simp only at b1 b2 b3 b4 b5 b6 b7 b8 b9 b10 b11 b12 b13 b14 hp
  have HP := hid hp
  clear hp
  go_enter Tryd.func59, Tryd.ntmps59
  go_wp2_with fail
  refine (s_l25Own ⟨⟨minute, state, lines, line, since, cast, fuel⟩, A, c⟩ _ (HV.out.grew (by (repeat (first | with_reducible exact grew_refl _ | with_reducible assumption | with_reducible refine grew_split ?_ | with_reducible refine grew_mk ?_ | with_reducible refine grew_plus ?_ | with_reducible refine grew_alloc ?_ | with_reducible refine grew_drew ?_ | (with_reducible refine grew_set ?_ (by first | exact Nat.le_refl _ | omega | (simp [go_sem]; done) | (simp [go_sem]; omega))))))) (by simp only; omega) b6).mono ?_
  rintro e w' ⟨⟨A1, d1, rfl, hO1⟩, gx1, rfl⟩
  have HO1 := hid hO1
  clear hO1
  obtain rfl : x = 0 := by simp [stepB, inB] at hs; exact hs
  clear hs
  by_cases h0 : state = 2
  · subst h0
    obtain ⟨j, rfl⟩ : ∃ j : Nat, line = (j : Int) + 1 := by
      have := HK.out
      simp only [DayC.ok, DayC.post, if_true, inB, Bool.and_eq_true, decide_eq_true_eq] at this
      exact ⟨(line - 1).toNat, by omega⟩
    have hj : j < lines.length := by omega
    obtain ⟨b, off, rfl, hb, hc⟩ := HV.out.ln.at_ hj
    obtain ⟨hc0, hc1⟩ := lcells hc hj
    clear hc
    obtain he | ⟨hl0, g1, cs, rfl, hg1, hB1, hs1, hF1⟩ := HO1.out.split
    · exfalso
      simp only at he
      subst he
      simp at hj
    have hlt1 := hB1.lt
    obtain ⟨⟨_, hz0⟩, ⟨_, hz1⟩, hf0, hf1⟩ := hB1.some2 (j * 2) (by simp only at hs1; omega)
    have HB1 := hid hB1
    have HS1 := hid hs1
    have HF1 := hid hF1
    have HG1 := hid hg1
    clear hB1 hs1 hF1 hl0
    simp [go_sem] at hlt1 hz0 hz1 hf0 hf1 hg1
    by_cases hm : lines[j].minutes ≤ minute - since
    · have KEY : Hid (∀ W' : World, W'.heap.size = w.heap.size + 1 + 1 + 1 → OwnF (w.heap.size + 1 + 1 + 1) 44 2 LineR.row (((plus W' gx1).setCell ⟨g1, j * 2, none⟩ (.int .i64 lines[j].minutes)).setCell ⟨g1, j * 2 + 1, none⟩ (.bool true)) (some ⟨g1, 0, none⟩) (setDone lines j)) := hid (fun W' hW => .inr ⟨g1, _, rfl, hg1, ((HB1.out.base (by simp; omega) (by rw [hW]; simp)).set_ _ _).set_ _ _, by have := HS1.out; rw [setDone_len, Array.size_setIfInBounds, Array.size_setIfInBounds]; exact this, filled_done (filled_same HF1.out (HF1.out j hj hj 0 _ rfl)) (by have := HS1.out; rw [Array.size_setIfInBounds]; exact this) hj⟩)
      have HC := hid (show candF ⟨minute, 2, lines, (j : Int) + 1, since, cast, fuel⟩ 5 0 = some ⟨minute, 1, setDone lines j, 0, 0, cast, fuel⟩ by simp [candF, minsAt, hj, hm])
      go_wp2_with fail
      (refine wp_region_calm (by kernel_rfl) (by kernel_rfl) ?_; (repeat' (first | go_big_quiet_step (fail) | (refine wpQuiet_step (fun K hK => ?_); go_simp; go_ite <;> go_simp <;> (first | (refine hK _ ?_; clear hK K) | (apply Exists.intro; refine ⟨fun _ => ?_, hK _ ?_⟩; (fail); clear hK K))))); all_goals (refine wpQuiet_nil ?_; intro _ hw'; obtain ⟨gq, hw''⟩ := hw'; subst hw''))
      go_wp2_with fail
      go_region
      go_wp2_with fail
      cases hcd : DayC.ok ⟨minute, 1, setDone lines j, 0, 0, cast, fuel⟩
      · have HF := hid (stepF_bad HC.out hcd)
        have hcall := fun W hv => s_l25Good ⟨⟨minute, 1, setDone lines j, 0, 0, cast, fuel⟩, some ⟨g1, 0, none⟩, d1⟩ _ hcd W hv
        simp only [DayV.val, setDone_len] at hcall
        have HCALL := hid hcall
        clear hcd hcall
        go_region_with (go_at_call 22; refine (HCALL.out _ ⟨(KEY.out ((((w.alloc (.cells #[.int .i64 minute, .int .i64 2, .slice (some ⟨b, off, none⟩) lines.length c, .int .i64 ((j : Int) + 1), .int .i64 since, .int .i64 cast, .int .i64 fuel] 26)).alloc (.cells #[.int .i64 5, .int .i64 0] 37)).alloc (.cells #[.int .i64 0, .int .i64 0, .slice none 0 0, .int .i64 0, .int .i64 0, .int .i64 0, .int .i64 0] 26))) (by simp)).sl.grew (by (repeat (first | with_reducible exact grew_refl _ | with_reducible assumption | with_reducible refine grew_split ?_ | with_reducible refine grew_mk ?_ | with_reducible refine grew_plus ?_ | with_reducible refine grew_alloc ?_ | with_reducible refine grew_drew ?_ | (with_reducible refine grew_set ?_ (by first | exact Nat.le_refl _ | omega | (simp [go_sem]; done) | (simp [go_sem]; omega)))))), by simp only [setDone_len]; exact Nat.le_trans b6 (by decide)⟩).mono ?_; (rintro e w' ⟨rfl, gx, rfl⟩))
        all_goals go_wp2_with fail
        all_goals (obtain rfl := HP.out.symm.trans HF.out; refine bodyPost_ret (v := .tuple #[DayV.val ⟨⟨minute, 1, setDone lines j, 0, 0, cast, fuel⟩, some ⟨g1, 0, none⟩, d1⟩, .bool false]) (by simp [results, Tryd.results59, go_sem, setDone_len]) rfl ?_)
        all_goals exact ⟨⟨_, _, _, rfl, by intro h; cases h⟩, by (repeat (first | with_reducible exact grew_refl _ | with_reducible assumption | with_reducible refine grew_split ?_ | with_reducible refine grew_mk ?_ | with_reducible refine grew_plus ?_ | with_reducible refine grew_alloc ?_ | with_reducible refine grew_drew ?_ | (with_reducible refine grew_set ?_ (by first | exact Nat.le_refl _ | omega | (simp [go_sem]; done) | (simp [go_sem]; omega)))))⟩
      · have HF := hid (stepF_good HC.out hcd)
        have hcall := fun W hv => s_l25Good ⟨⟨minute, 1, setDone lines j, 0, 0, cast, fuel⟩, some ⟨g1, 0, none⟩, d1⟩ _ hcd W hv
        simp only [DayV.val, setDone_len] at hcall
        have HCALL := hid hcall
        clear hcd hcall
        go_region_with (go_at_call 22; refine (HCALL.out _ ⟨(KEY.out ((((w.alloc (.cells #[.int .i64 minute, .int .i64 2, .slice (some ⟨b, off, none⟩) lines.length c, .int .i64 ((j : Int) + 1), .int .i64 since, .int .i64 cast, .int .i64 fuel] 26)).alloc (.cells #[.int .i64 5, .int .i64 0] 37)).alloc (.cells #[.int .i64 0, .int .i64 0, .slice none 0 0, .int .i64 0, .int .i64 0, .int .i64 0, .int .i64 0] 26))) (by simp)).sl.grew (by (repeat (first | with_reducible exact grew_refl _ | with_reducible assumption | with_reducible refine grew_split ?_ | with_reducible refine grew_mk ?_ | with_reducible refine grew_plus ?_ | with_reducible refine grew_alloc ?_ | with_reducible refine grew_drew ?_ | (with_reducible refine grew_set ?_ (by first | exact Nat.le_refl _ | omega | (simp [go_sem]; done) | (simp [go_sem]; omega)))))), by simp only [setDone_len]; exact Nat.le_trans b6 (by decide)⟩).mono ?_; (rintro e w' ⟨rfl, gx, rfl⟩))
        all_goals go_wp2_with fail
        all_goals (obtain rfl := HP.out.symm.trans HF.out; refine bodyPost_ret (v := .tuple #[DayV.val ⟨⟨minute, 1, setDone lines j, 0, 0, cast, fuel⟩, some ⟨g1, 0, none⟩, d1⟩, .bool true]) (by simp [results, Tryd.results59, go_sem, setDone_len]) rfl ?_)
        all_goals exact ⟨⟨_, _, _, rfl, fun _ => ⟨rfl, (OwnF.grew (OwnF.set7 (KEY.out ((((w.alloc (.cells #[.int .i64 minute, .int .i64 2, .slice (some ⟨b, off, none⟩) lines.length c, .int .i64 ((j : Int) + 1), .int .i64 since, .int .i64 cast, .int .i64 fuel] 26)).alloc (.cells #[.int .i64 5, .int .i64 0] 37)).alloc (.cells #[.int .i64 0, .int .i64 0, .slice none 0 0, .int .i64 0, .int .i64 0, .int .i64 0, .int .i64 0] 26))) (by simp)) (by omega)) (grew_plus (grew_alloc (grew_refl _)))).less (by omega)⟩⟩, by (repeat (first | with_reducible exact grew_refl _ | with_reducible assumption | with_reducible refine grew_split ?_ | with_reducible refine grew_mk ?_ | with_reducible refine grew_plus ?_ | with_reducible refine grew_alloc ?_ | with_reducible refine grew_drew ?_ | (with_reducible refine grew_set ?_ (by first | exact Nat.le_refl _ | omega | (simp [go_sem]; done) | (simp [go_sem]; omega)))))⟩
    · have HF := hid (stepF_none (v := ⟨minute, 2, lines, (j : Int) + 1, since, cast, fuel⟩) (k := 5) (x := 0) (by simp only [candF, minsAt]; grind))
      go_wp2_with fail
      (refine wp_region_calm (by kernel_rfl) (by kernel_rfl) ?_; (repeat' (first | go_big_quiet_step (fail) | (refine wpQuiet_step (fun K hK => ?_); go_simp; go_ite <;> go_simp <;> (first | (refine hK _ ?_; clear hK K) | (apply Exists.intro; refine ⟨fun _ => ?_, hK _ ?_⟩; (fail); clear hK K))))); all_goals (refine wpQuiet_nil ?_; intro _ hw'; obtain ⟨gq, hw''⟩ := hw'; subst hw''))
      go_wp2_with fail
      go_region
      go_wp2_with fail
      go_region_with fail
      all_goals go_wp2_with fail
      all_goals (obtain rfl := HP.out.symm.trans HF.out; refine bodyPost_ret (v := .tuple #[DayV.val ⟨⟨minute, 1, setDone lines j, 0, 0, cast, fuel⟩, some ⟨g1, 0, none⟩, d1⟩, .bool false]) (by simp [results, Tryd.results59, go_sem, setDone_len]) rfl ?_)
      all_goals exact ⟨⟨_, _, _, rfl, by intro h; cases h⟩, by (repeat (first | with_reducible exact grew_refl _ | with_reducible assumption | with_reducible refine grew_split ?_ | with_reducible refine grew_mk ?_ | with_reducible refine grew_plus ?_ | with_reducible refine grew_alloc ?_ | with_reducible refine grew_drew ?_ | (with_reducible refine grew_set ?_ (by first | exact Nat.le_refl _ | omega | (simp [go_sem]; done) | (simp [go_sem]; omega)))))⟩
  · have HF := hid (stepF_none (v := ⟨minute, state, lines, line, since, cast, fuel⟩) (k := 5) (x := 0) (by simp only [candF]; grind))
    have h0' : (state != 2) = true := by simp [h0]
    go_wp2_with fail
    ((obtain rfl := HP.out.symm.trans HF.out; refine bodyPost_ret (v := .tuple #[DayV.val ⟨⟨minute, state, lines, line, since, cast, fuel⟩, A1, d1⟩, .bool false]) (by simp [results, Tryd.results59, go_sem]) rfl ?_); exact ⟨⟨⟨minute, state, lines, line, since, cast, fuel⟩, A1, d1, rfl, by intro h; cases h⟩, by (repeat (first | with_reducible exact grew_refl _ | with_reducible assumption | with_reducible refine grew_split ?_ | with_reducible refine grew_mk ?_ | with_reducible refine grew_plus ?_ | with_reducible refine grew_alloc ?_ | with_reducible refine grew_drew ?_ | (with_reducible refine grew_set ?_ (by first | exact Nat.le_refl _ | omega | (simp [go_sem]; done) | (simp [go_sem]; omega)))))⟩)
end Go.Proofs.YtcljcbbkbepmjaaDoor
