import Derived.Test.YtecghfcgahgfiaaGreatDoorP14
import Derived.Test.YtecghfcgahgfiaaGreatDoorP16
import Derived.Test.YtecghfcgahgfiaaGreatDoorP15
import Derived.Test.YtecghfcgahgfiaaGreatDoorP11
/- What a valid step makes of a day, in the reference: ending a line. -/
namespace Go.Proofs.YtecghfcgahgfiaaGreatDoor
open Go.RowKit

theorem filled_same {α : Type} {cs : Array Value} {s : Nat} {cells : α → List Value} {l : List α} {i : Nat} {u : Value} (hF : Filled cs s cells l l.length) (hu : cs[i]? = some u) : Filled (cs.setIfInBounds i u) s cells l l.length := by
  intro k hk h q v hv
  rw [Array.getElem?_setIfInBounds]
  have h1 := hF k hk h q v hv
  by_cases hi : i = k * s + q
  · subst hi
    rw [hu] at h1
    have hlt := (Array.getElem?_eq_some_iff.1 hu).1
    rw [if_pos rfl, if_pos hlt]
    exact h1
  · rw [if_neg hi]; exact h1
set_option maxHeartbeats 4000000 in
set_option maxRecDepth 10000 in
theorem s_make5 (minute state : Int) (lines : List LineR) (line since cast fuel : Int) (A : Option Addr) (c : Nat) (x : Int) (p : DayC × Bool) (hp : stepF ⟨minute, state, lines, line, since, cast, fuel⟩ 5 x = p) (w : World) (hok : DayC.ok ⟨minute, state, lines, line, since, cast, fuel⟩ = true) (hs : stepB ⟨minute, state, lines, line, since, cast, fuel⟩ 5 x = true) (hv : DayV.At w ⟨⟨minute, state, lines, line, since, cast, fuel⟩, A, c⟩) :
    Calls Tryz.prog 112 #[DayV.val ⟨⟨minute, state, lines, line, since, cast, fuel⟩, A, c⟩, .agg #[.int .i64 5, .int .i64 x]] w fun e w' => MakePost w.heap.size p e w' ∧ ∃ g, w' = plus w g := by
  have HV := hid hv
  have HK := hid hok
  obtain ⟨b1, b2, b3, b4, b5, b6, b7, b8, b9, b10, b11, b12, b13, b14⟩ := DayC.bounds hok
  clear hv hok
  simp only at b1 b2 b3 b4 b5 b6 b7 b8 b9 b10 b11 b12 b13 b14 hp
  have HP := hid hp
  clear hp
  go_enter Tryz.func112, Tryz.ntmps112
  go_wp2_with fail
  refine (s_l25Own ⟨⟨minute, state, lines, line, since, cast, fuel⟩, A, c⟩ _ (HV.out.grew (by (repeat (first | with_reducible exact grew_refl _ | with_reducible assumption | with_reducible refine grew_split ?_ | with_reducible refine grew_mk ?_ | with_reducible refine grew_plus ?_ | with_reducible refine grew_alloc ?_ | with_reducible refine grew_drew ?_ | (with_reducible refine grew_set ?_ (by first | exact Nat.le_refl _ | omega | (simp [go_sem]; done) | (simp [go_sem]; omega))))))) (by simp only; omega) b6).mono ?_
  rintro e w' ⟨⟨A1, d1, rfl, hO1⟩, gx1, rfl⟩
  have HO1 := hid hO1
  clear hO1
  obtain rfl : x = 0 := by simp [stepB, inB] at hs; exact hs
  clear hs
  by_cases h0 : state = 2
  · subst h0
    obtain ⟨j, rfl⟩ : ∃ j : Nat, line = (j : Int) + 1 := by
      have := HK.out
      simp only [DayC.ok, DayC.post, if_true, inB, Bool.and_eq_true, decide_eq_true_eq] at this
      exact ⟨(line - 1).toNat, by omega⟩
    have hj : j < lines.length := by omega
    obtain ⟨b, off, rfl, hb, hc⟩ := HV.out.ln.at_ hj
    obtain ⟨hc0, hc1⟩ := lcells hc hj
    clear hc
    obtain he | ⟨hl0, g1, cs, rfl, hg1, hB1, hs1, hF1⟩ := HO1.out.split
    · exfalso
      simp only at he
      subst he
      simp at hj
    have hlt1 := hB1.lt
    obtain ⟨⟨_, hz0⟩, ⟨_, hz1⟩, hf0, hf1⟩ := hB1.some2 (j * 2) (by simp only at hs1; omega)
    have HB1 := hid hB1
    have HS1 := hid hs1
    have HF1 := hid hF1
    have HG1 := hid hg1
    clear hB1 hs1 hF1 hl0
    simp [go_sem] at hlt1 hz0 hz1 hf0 hf1 hg1
    by_cases hm : lines[j].minutes ≤ minute - since
    · have KEY : Hid (∀ W' : World, W'.heap.size = w.heap.size + 1 + 1 + 1 → OwnF (w.heap.size + 1 + 1 + 1) 80 2 LineR.row (((plus W' gx1).setCell ⟨g1, j * 2, none⟩ (.int .i64 lines[j].minutes)).setCell ⟨g1, j * 2 + 1, none⟩ (.bool true)) (some ⟨g1, 0, none⟩) (setDone lines j)) := hid (fun W' hW => .inr ⟨g1, _, rfl, hg1, ((HB1.out.base (by simp; omega) (by rw [hW]; simp)).set_ _ _).set_ _ _, by have := HS1.out; rw [setDone_len, Array.size_setIfInBounds, Array.size_setIfInBounds]; exact this, filled_done (filled_same HF1.out (HF1.out j hj hj 0 _ rfl)) (by have := HS1.out; rw [Array.size_setIfInBounds]; exact this) hj⟩)
      have HC := hid (show candF ⟨minute, 2, lines, (j : Int) + 1, since, cast, fuel⟩ 5 0 = some ⟨minute, 1, setDone lines j, 0, 0, cast, fuel⟩ by simp [candF, minsAt, hj, hm])
      go_wp2_with fail
      (refine wp_region_calm (by kernel_rfl) (by kernel_rfl) ?_; (repeat' (first | go_big_quiet_step (fail) | (refine wpQuiet_step (fun K hK => ?_); go_simp; go_ite <;> go_simp <;> (first | (refine hK _ ?_; clear hK K) | (apply Exists.intro; refine ⟨fun _ => ?_, hK _ ?_⟩; (fail); clear hK K))))); all_goals (refine wpQuiet_nil ?_; intro _ hw'; obtain ⟨gq, hw''⟩ := hw'; subst hw''))
      go_wp2_with fail
      go_region
      go_wp2_with fail
      cases hcd : DayC.ok ⟨minute, 1, setDone lines j, 0, 0, cast, fuel⟩
      · have HF := hid (stepF_bad HC.out hcd)
        have hcall := fun W hv => s_l25Good ⟨⟨minute, 1, setDone lines j, 0, 0, cast, fuel⟩, some ⟨g1, 0, none⟩, d1⟩ _ hcd W hv
        simp only [DayV.val, setDone_len] at hcall
        have HCALL := hid hcall
        clear hcd hcall
        go_region_with (go_at_call 75; refine (HCALL.out _ ⟨(KEY.out ((((w.alloc (.cells #[.int .i64 minute, .int .i64 2, .slice (some ⟨b, off, none⟩) lines.length c, .int .i64 ((j : Int) + 1), .int .i64 since, .int .i64 cast, .int .i64 fuel] 26)).alloc (.cells #[.int .i64 5, .int .i64 0] 95)).alloc (.cells #[.int .i64 0, .int .i64 0, .slice none 0 0, .int .i64 0, .int .i64 0, .int .i64 0, .int .i64 0] 26))) (by simp)).sl.grew (by (repeat (first | with_reducible exact grew_refl _ | with_reducible assumption | with_reducible refine grew_split ?_ | with_reducible refine grew_mk ?_ | with_reducible refine grew_plus ?_ | with_reducible refine grew_alloc ?_ | with_reducible refine grew_drew ?_ | (with_reducible refine grew_set ?_ (by first | exact Nat.le_refl _ | omega | (simp [go_sem]; done) | (simp [go_sem]; omega)))))), by simp only [setDone_len]; exact Nat.le_trans b6 (by decide)⟩).mono ?_; (rintro e w' ⟨rfl, gx, rfl⟩))
        all_goals go_wp2_with fail
        all_goals (obtain rfl := HP.out.symm.trans HF.out; refine bodyPost_ret (v := .tuple #[DayV.val ⟨⟨minute, 1, setDone lines j, 0, 0, cast, fuel⟩, some ⟨g1, 0, none⟩, d1⟩, .bool false]) (by simp [results, Tryz.results112, go_sem, setDone_len]) rfl ?_)
        all_goals exact ⟨⟨_, _, _, rfl, by intro h; cases h⟩, by (repeat (first | with_reducible exact grew_refl _ | with_reducible assumption | with_reducible refine grew_split ?_ | with_reducible refine grew_mk ?_ | with_reducible refine grew_plus ?_ | with_reducible refine grew_alloc ?_ | with_reducible refine grew_drew ?_ | (with_reducible refine grew_set ?_ (by first | exact Nat.le_refl _ | omega | (simp [go_sem]; done) | (simp [go_sem]; omega)))))⟩
      · have HF := hid (stepF_good HC.out hcd)
        have hcall := fun W hv => s_l25Good ⟨⟨minute, 1, setDone lines j, 0, 0, cast, fuel⟩, some ⟨g1, 0, none⟩, d1⟩ _ hcd W hv
        simp only [DayV.val, setDone_len] at hcall
        have HCALL := hid hcall
        clear hcd hcall
        go_region_with (go_at_call 75; refine (HCALL.out _ ⟨(KEY.out ((((w.alloc (.cells #[.int .i64 minute, .int .i64 2, .slice (some ⟨b, off, none⟩) lines.length c, .int .i64 ((j : Int) + 1), .int .i64 since, .int .i64 cast, .int .i64 fuel] 26)).alloc (.cells #[.int .i64 5, .int .i64 0] 95)).alloc (.cells #[.int .i64 0, .int .i64 0, .slice none 0 0, .int .i64 0, .int .i64 0, .int .i64 0, .int .i64 0] 26))) (by simp)).sl.grew (by (repeat (first | with_reducible exact grew_refl _ | with_reducible assumption | with_reducible refine grew_split ?_ | with_reducible refine grew_mk ?_ | with_reducible refine grew_plus ?_ | with_reducible refine grew_alloc ?_ | with_reducible refine grew_drew ?_ | (with_reducible refine grew_set ?_ (by first | exact Nat.le_refl _ | omega | (simp [go_sem]; done) | (simp [go_sem]; omega)))))), by simp only [setDone_len]; exact Nat.le_trans b6 (by decide)⟩).mono ?_; (rintro e w' ⟨rfl, gx, rfl⟩))
        all_goals go_wp2_with fail
        all_goals (obtain rfl := HP.out.symm.trans HF.out; refine bodyPost_ret (v := .tuple #[DayV.val ⟨⟨minute, 1, setDone lines j, 0, 0, cast, fuel⟩, some ⟨g1, 0, none⟩, d1⟩, .bool true]) (by simp [results, Tryz.results112, go_sem, setDone_len]) rfl ?_)
        all_goals exact ⟨⟨_, _, _, rfl, fun _ => ⟨rfl, (OwnF.grew (OwnF.set7 (KEY.out ((((w.alloc (.cells #[.int .i64 minute, .int .i64 2, .slice (some ⟨b, off, none⟩) lines.length c, .int .i64 ((j : Int) + 1), .int .i64 since, .int .i64 cast, .int .i64 fuel] 26)).alloc (.cells #[.int .i64 5, .int .i64 0] 95)).alloc (.cells #[.int .i64 0, .int .i64 0, .slice none 0 0, .int .i64 0, .int .i64 0, .int .i64 0, .int .i64 0] 26))) (by simp)) (by omega)) (grew_plus (grew_alloc (grew_refl _)))).less (by omega)⟩⟩, by (repeat (first | with_reducible exact grew_refl _ | with_reducible assumption | with_reducible refine grew_split ?_ | with_reducible refine grew_mk ?_ | with_reducible refine grew_plus ?_ | with_reducible refine grew_alloc ?_ | with_reducible refine grew_drew ?_ | (with_reducible refine grew_set ?_ (by first | exact Nat.le_refl _ | omega | (simp [go_sem]; done) | (simp [go_sem]; omega)))))⟩
    · have HF := hid (stepF_none (v := ⟨minute, 2, lines, (j : Int) + 1, since, cast, fuel⟩) (k := 5) (x := 0) (by simp only [candF, minsAt]; grind))
      go_wp2_with fail
      (refine wp_region_calm (by kernel_rfl) (by kernel_rfl) ?_; (repeat' (first | go_big_quiet_step (fail) | (refine wpQuiet_step (fun K hK => ?_); go_simp; go_ite <;> go_simp <;> (first | (refine hK _ ?_; clear hK K) | (apply Exists.intro; refine ⟨fun _ => ?_, hK _ ?_⟩; (fail); clear hK K))))); all_goals (refine wpQuiet_nil ?_; intro _ hw'; obtain ⟨gq, hw''⟩ := hw'; subst hw''))
      go_wp2_with fail
      go_region
      go_wp2_with fail
      go_region_with fail
      all_goals go_wp2_with fail
      all_goals (obtain rfl := HP.out.symm.trans HF.out; refine bodyPost_ret (v := .tuple #[DayV.val ⟨⟨minute, 1, setDone lines j, 0, 0, cast, fuel⟩, some ⟨g1, 0, none⟩, d1⟩, .bool false]) (by simp [results, Tryz.results112, go_sem, setDone_len]) rfl ?_)
      all_goals exact ⟨⟨_, _, _, rfl, by intro h; cases h⟩, by (repeat (first | with_reducible exact grew_refl _ | with_reducible assumption | with_reducible refine grew_split ?_ | with_reducible refine grew_mk ?_ | with_reducible refine grew_plus ?_ | with_reducible refine grew_alloc ?_ | with_reducible refine grew_drew ?_ | (with_reducible refine grew_set ?_ (by first | exact Nat.le_refl _ | omega | (simp [go_sem]; done) | (simp [go_sem]; omega)))))⟩
  · have HF := hid (stepF_none (v := ⟨minute, state, lines, line, since, cast, fuel⟩) (k := 5) (x := 0) (by simp only [candF]; grind))
    have h0' : (state != 2) = true := by simp [h0]
    go_wp2_with fail
    ((obtain rfl := HP.out.symm.trans HF.out; refine bodyPost_ret (v := .tuple #[DayV.val ⟨⟨minute, state, lines, line, since, cast, fuel⟩, A1, d1⟩, .bool false]) (by simp [results, Tryz.results112, go_sem]) rfl ?_); exact ⟨⟨⟨minute, state, lines, line, since, cast, fuel⟩, A1, d1, rfl, by intro h; cases h⟩, by (repeat (first | with_reducible exact grew_refl _ | with_reducible assumption | with_reducible refine grew_split ?_ | with_reducible refine grew_mk ?_ | with_reducible refine grew_plus ?_ | with_reducible refine grew_alloc ?_ | with_reducible refine grew_drew ?_ | (with_reducible refine grew_set ?_ (by first | exact Nat.le_refl _ | omega | (simp [go_sem]; done) | (simp [go_sem]; omega)))))⟩)
end Go.Proofs.YtecghfcgahgfiaaGreatDoor
/- A step of a day: both packages' StepDay. -/
namespace Go.Proofs.YtecghfcgahgfiaaGreatDoor
open Go.RowKit

def stepAll (v : DayC) (k x : Int) : DayC × Bool := if v.ok then stepF v k x else (noDay, false)
theorem stepAll_bad {v : DayC} {k x : Int} (h : v.ok = false) : stepAll v k x = (noDay, false) := by simp [stepAll, h]
theorem stepAll_good {v : DayC} {k x : Int} (h : v.ok = true) : stepAll v k x = stepF v k x := by simp [stepAll, h]
theorem stepF_notB {v : DayC} {k x : Int} (h : stepB v k x = false) : stepF v k x = (noDay, false) := by
  by_cases h1 : k = 1
  · subst h1
    simp [stepB] at h
    exact stepF_none (by simp [candF]; omega)
  by_cases h4 : k = 4
  · subst h4
    by_cases hc : v.state = 1 ∧ castB v = true
    · refine stepF_bad (d := ⟨v.minute, 2, v.lines, x, v.minute, v.cast, v.fuel⟩) (by simp [candF, hc]) ?_
      simp [stepB] at h
      simp [DayC.ok, DayC.post, h]
    · exact stepF_none (by simp [candF, hc])
  refine stepF_none ?_
  simp only [stepB, if_neg h1, if_neg h4] at h
  by_cases hx : x = 0
  · subst hx
    simp [inB] at h
    have e2 : k ≠ 2 := by omega
    have e3 : k ≠ 3 := by omega
    have e5 : k ≠ 5 := by omega
    have e6 : k ≠ 6 := by omega
    have e7 : k ≠ 7 := by omega
    simp [candF, h1, h4, e2, e3, e5, e6, e7]
  · simp [candF, h1, h4, hx]
theorem stepF_no {v : DayC} {k x : Int} (h : (stepF v k x).2 = false) : stepF v k x = (noDay, false) := by
  unfold stepF at h ⊢
  cases hc : candF v k x with
  | none => rfl
  | some d =>
    simp only [hc] at h ⊢
    cases hd : d.ok
    · simp
    · simp [hd] at h
theorem stepF_ok {v : DayC} {k x : Int} (h : (stepF v k x).2 = true) : (stepF v k x).1.ok = true := by
  unfold stepF at h ⊢
  cases hc : candF v k x with
  | none => simp [hc] at h
  | some d =>
    simp only [hc] at h ⊢
    cases hd : d.ok
    · simp [hd] at h
    · simp [hd]
theorem s_l25Make (v : DayV) (k x : Int) (p : DayC × Bool) (hp : stepF v.core k x = p) (w : World) (hok : v.core.ok = true) (hs : stepB v.core k x = true) (hv : v.At w) :
    Calls Tryz.prog 112 #[v.val, .agg #[.int .i64 k, .int .i64 x]] w fun e w' => MakePost w.heap.size p e w' ∧ ∃ g, w' = plus w g := by
  obtain ⟨⟨minute, state, lines, line, since, cast, fuel⟩, A, c⟩ := v
  have hk : k = 1 ∨ k = 2 ∨ k = 3 ∨ k = 4 ∨ k = 5 ∨ k = 6 ∨ k = 7 := by
    simp only [stepB, inB] at hs
    by_cases h1 : k = 1
    · exact .inl h1
    by_cases h4 : k = 4
    · simp [h4]
    simp [h1, h4] at hs
    omega
  obtain rfl | rfl | rfl | rfl | rfl | rfl | rfl := hk
  · exact s_make1 minute state lines line since cast fuel A c x p hp w hok hs hv
  · exact s_make2 minute state lines line since cast fuel A c x p hp w hok hs hv
  · exact s_make3 minute state lines line since cast fuel A c x p hp w hok hs hv
  · exact s_make4 minute state lines line since cast fuel A c x p hp w hok hs hv
  · exact s_make5 minute state lines line since cast fuel A c x p hp w hok hs hv
  · exact s_make6 minute state lines line since cast fuel A c x p hp w hok hs hv
  · exact s_make7 minute state lines line since cast fuel A c x p hp w hok hs hv
set_option maxHeartbeats 4000000 in
theorem i_StepDay (v : DayV) (k x : Int) (w : World) (hv : v.At w) :
    Calls Tryz.prog 72 #[v.val, .agg #[.int .i64 k, .int .i64 x]] w fun e w' => DayPost w.heap.size (stepAll v.core k x) e w' ∧ ∃ g, w' = plus w g := by
  have HV := hid hv
  clear hv
  cases hok : v.core.ok
  · have HK := hid hok
    rw [stepAll_bad hok]
    clear hok
    go_enter Tryz.func72, Tryz.ntmps72
    go_wp2_with fail
    refine (i_IsSurveyDay v _ HK.out _ (HV.out.grew (by (repeat (first | with_reducible exact grew_refl _ | with_reducible assumption | with_reducible refine grew_split ?_ | with_reducible refine grew_mk ?_ | with_reducible refine grew_plus ?_ | with_reducible refine grew_alloc ?_ | with_reducible refine grew_drew ?_ | (with_reducible refine grew_set ?_ (by first | exact Nat.le_refl _ | omega | (simp [go_sem]; done) | (simp [go_sem]; omega)))))))).mono ?_
    (rintro e w' ⟨rfl, gx, rfl⟩)
    go_wp2_with fail
    refine bodyPost_ret (v := .tuple #[DayV.val ⟨noDay, none, 0⟩, .bool false]) (by simp [results, Tryz.results72, go_sem, noDay]) rfl ?_
    exact ⟨DayPost.no, by (repeat (first | with_reducible exact grew_refl _ | with_reducible assumption | with_reducible refine grew_split ?_ | with_reducible refine grew_mk ?_ | with_reducible refine grew_plus ?_ | with_reducible refine grew_alloc ?_ | with_reducible refine grew_drew ?_ | (with_reducible refine grew_set ?_ (by first | exact Nat.le_refl _ | omega | (simp [go_sem]; done) | (simp [go_sem]; omega)))))⟩
  · have HK := hid hok
    rw [stepAll_good hok]
    clear hok
    obtain ⟨p, hp⟩ : ∃ p, stepF v.core k x = p := ⟨_, rfl⟩
    rw [hp]
    have HP := hid hp
    clear hp
    go_enter Tryz.func72, Tryz.ntmps72
    go_wp2_with fail
    refine (i_IsSurveyDay v _ HK.out _ (HV.out.grew (by (repeat (first | with_reducible exact grew_refl _ | with_reducible assumption | with_reducible refine grew_split ?_ | with_reducible refine grew_mk ?_ | with_reducible refine grew_plus ?_ | with_reducible refine grew_alloc ?_ | with_reducible refine grew_drew ?_ | (with_reducible refine grew_set ?_ (by first | exact Nat.le_refl _ | omega | (simp [go_sem]; done) | (simp [go_sem]; omega)))))))).mono ?_
    (rintro e w' ⟨rfl, gx, rfl⟩)
    go_wp2_with fail
    refine (i_stepDay v k x p HP.out _ HK.out (HV.out.grew (by (repeat (first | with_reducible exact grew_refl _ | with_reducible assumption | with_reducible refine grew_split ?_ | with_reducible refine grew_mk ?_ | with_reducible refine grew_plus ?_ | with_reducible refine grew_alloc ?_ | with_reducible refine grew_drew ?_ | (with_reducible refine grew_set ?_ (by first | exact Nat.le_refl _ | omega | (simp [go_sem]; done) | (simp [go_sem]; omega)))))))).mono ?_
    rintro e w' ⟨⟨A1, d1, rfl, hO1⟩, gx1, rfl⟩
    (try rw [plus_plus] at hO1)
    have HO1 := hid hO1
    clear hO1
    go_wp2_with fail
    refine bodyPost_ret (v := .tuple #[DayV.val ⟨p.1, A1, d1⟩, .bool p.2]) (by simp [results, Tryz.results72, go_sem]) rfl ?_
    exact ⟨⟨A1, d1, rfl, (OwnF.base HO1.out (by simp [go_sem]) (by simp)).less (by simp [go_sem] <;> omega)⟩, by (repeat (first | with_reducible exact grew_refl _ | with_reducible assumption | with_reducible refine grew_split ?_ | with_reducible refine grew_mk ?_ | with_reducible refine grew_plus ?_ | with_reducible refine grew_alloc ?_ | with_reducible refine grew_drew ?_ | (with_reducible refine grew_set ?_ (by first | exact Nat.le_refl _ | omega | (simp [go_sem]; done) | (simp [go_sem]; omega)))))⟩
set_option maxHeartbeats 4000000 in
theorem s_StepDay (v : DayV) (k x : Int) (w : World) (hv : v.At w) :
    Calls Tryz.prog 87 #[v.val, .agg #[.int .i64 k, .int .i64 x]] w fun e w' => DayPost w.heap.size (stepAll v.core k x) e w' ∧ ∃ g, w' = plus w g := by
  have HV := hid hv
  clear hv
  cases hok : v.core.ok
  · have HK := hid hok
    rw [stepAll_bad hok]
    clear hok
    go_enter Tryz.func87, Tryz.ntmps87
    go_wp2_with fail
    refine (s_l25Good v _ HK.out _ (HV.out.grew (by (repeat (first | with_reducible exact grew_refl _ | with_reducible assumption | with_reducible refine grew_split ?_ | with_reducible refine grew_mk ?_ | with_reducible refine grew_plus ?_ | with_reducible refine grew_alloc ?_ | with_reducible refine grew_drew ?_ | (with_reducible refine grew_set ?_ (by first | exact Nat.le_refl _ | omega | (simp [go_sem]; done) | (simp [go_sem]; omega)))))))).mono ?_
    (rintro e w' ⟨rfl, gx, rfl⟩)
    go_wp2_with fail
    refine bodyPost_ret (v := .tuple #[DayV.val ⟨noDay, none, 0⟩, .bool false]) (by simp [results, Tryz.results87, go_sem, noDay]) rfl ?_
    exact ⟨DayPost.no, by (repeat (first | with_reducible exact grew_refl _ | with_reducible assumption | with_reducible refine grew_split ?_ | with_reducible refine grew_mk ?_ | with_reducible refine grew_plus ?_ | with_reducible refine grew_alloc ?_ | with_reducible refine grew_drew ?_ | (with_reducible refine grew_set ?_ (by first | exact Nat.le_refl _ | omega | (simp [go_sem]; done) | (simp [go_sem]; omega)))))⟩
  have HK := hid hok
  rw [stepAll_good hok]
  have hl8 := (DayC.bounds hok).2.2.2.2.2.1
  clear hok
  cases hb : stepB v.core k x
  · have HB := hid hb
    rw [stepF_notB hb]
    clear hb
    go_enter Tryz.func87, Tryz.ntmps87
    go_wp2_with (first | (go_at_call 75; refine (s_l25Good v _ HK.out _ (HV.out.grew (by (repeat (first | with_reducible exact grew_refl _ | with_reducible assumption | with_reducible refine grew_split ?_ | with_reducible refine grew_mk ?_ | with_reducible refine grew_plus ?_ | with_reducible refine grew_alloc ?_ | with_reducible refine grew_drew ?_ | (with_reducible refine grew_set ?_ (by first | exact Nat.le_refl _ | omega | (simp [go_sem]; done) | (simp [go_sem]; omega)))))))).mono ?_; (rintro e w' ⟨rfl, gx, rfl⟩)) | (go_at_call 111; refine (s_l25Step v k x _ HB.out _ hl8).mono ?_; (rintro e w' ⟨rfl, gx, rfl⟩)))
    refine bodyPost_ret (v := .tuple #[DayV.val ⟨noDay, none, 0⟩, .bool false]) (by simp [results, Tryz.results87, go_sem, noDay]) rfl ?_
    exact ⟨DayPost.no, by (repeat (first | with_reducible exact grew_refl _ | with_reducible assumption | with_reducible refine grew_split ?_ | with_reducible refine grew_mk ?_ | with_reducible refine grew_plus ?_ | with_reducible refine grew_alloc ?_ | with_reducible refine grew_drew ?_ | (with_reducible refine grew_set ?_ (by first | exact Nat.le_refl _ | omega | (simp [go_sem]; done) | (simp [go_sem]; omega)))))⟩
  have HB := hid hb
  clear hb
  cases h2 : (stepF v.core k x).2
  · rw [stepF_no h2]
    have H2 := hid h2
    clear h2
    go_enter Tryz.func87, Tryz.ntmps87
    go_wp2_with (first | (go_at_call 75; refine (s_l25Good v _ HK.out _ (HV.out.grew (by (repeat (first | with_reducible exact grew_refl _ | with_reducible assumption | with_reducible refine grew_split ?_ | with_reducible refine grew_mk ?_ | with_reducible refine grew_plus ?_ | with_reducible refine grew_alloc ?_ | with_reducible refine grew_drew ?_ | (with_reducible refine grew_set ?_ (by first | exact Nat.le_refl _ | omega | (simp [go_sem]; done) | (simp [go_sem]; omega)))))))).mono ?_; (rintro e w' ⟨rfl, gx, rfl⟩)) | (go_at_call 111; refine (s_l25Step v k x _ HB.out _ hl8).mono ?_; (rintro e w' ⟨rfl, gx, rfl⟩)))
    refine (s_l25Make v k x (noDay, false) (stepF_no H2.out) _ HK.out HB.out (HV.out.grew (by (repeat (first | with_reducible exact grew_refl _ | with_reducible assumption | with_reducible refine grew_split ?_ | with_reducible refine grew_mk ?_ | with_reducible refine grew_plus ?_ | with_reducible refine grew_alloc ?_ | with_reducible refine grew_drew ?_ | (with_reducible refine grew_set ?_ (by first | exact Nat.le_refl _ | omega | (simp [go_sem]; done) | (simp [go_sem]; omega)))))))).mono ?_
    rintro e w' ⟨⟨d, A1, d1, rfl, hO1⟩, gx1, rfl⟩
    clear hO1
    go_wp2_with fail
    refine bodyPost_ret (v := .tuple #[DayV.val ⟨noDay, none, 0⟩, .bool false]) (by simp [results, Tryz.results87, go_sem, noDay]) rfl ?_
    exact ⟨DayPost.no, by (repeat (first | with_reducible exact grew_refl _ | with_reducible assumption | with_reducible refine grew_split ?_ | with_reducible refine grew_mk ?_ | with_reducible refine grew_plus ?_ | with_reducible refine grew_alloc ?_ | with_reducible refine grew_drew ?_ | (with_reducible refine grew_set ?_ (by first | exact Nat.le_refl _ | omega | (simp [go_sem]; done) | (simp [go_sem]; omega)))))⟩
  · obtain ⟨p, hp⟩ : ∃ p, stepF v.core k x = p := ⟨_, rfl⟩
    rw [hp]
    obtain ⟨p, q⟩ := p
    rw [hp] at h2
    simp only at h2
    subst h2
    have HP := hid hp
    clear hp
    go_enter Tryz.func87, Tryz.ntmps87
    go_wp2_with (first | (go_at_call 75; refine (s_l25Good v _ HK.out _ (HV.out.grew (by (repeat (first | with_reducible exact grew_refl _ | with_reducible assumption | with_reducible refine grew_split ?_ | with_reducible refine grew_mk ?_ | with_reducible refine grew_plus ?_ | with_reducible refine grew_alloc ?_ | with_reducible refine grew_drew ?_ | (with_reducible refine grew_set ?_ (by first | exact Nat.le_refl _ | omega | (simp [go_sem]; done) | (simp [go_sem]; omega)))))))).mono ?_; (rintro e w' ⟨rfl, gx, rfl⟩)) | (go_at_call 111; refine (s_l25Step v k x _ HB.out _ hl8).mono ?_; (rintro e w' ⟨rfl, gx, rfl⟩)))
    refine (s_l25Make v k x (p, true) HP.out _ HK.out HB.out (HV.out.grew (by (repeat (first | with_reducible exact grew_refl _ | with_reducible assumption | with_reducible refine grew_split ?_ | with_reducible refine grew_mk ?_ | with_reducible refine grew_plus ?_ | with_reducible refine grew_alloc ?_ | with_reducible refine grew_drew ?_ | (with_reducible refine grew_set ?_ (by first | exact Nat.le_refl _ | omega | (simp [go_sem]; done) | (simp [go_sem]; omega)))))))).mono ?_
    rintro e w' ⟨⟨d, A1, d1, rfl, hO1⟩, gx1, rfl⟩
    obtain ⟨rfl, hO2⟩ := hO1 rfl
    (try rw [plus_plus] at hO2)
    have HO1 := hid hO2
    clear hO1 hO2
    go_wp2_with fail
    refine bodyPost_ret (v := .tuple #[DayV.val ⟨d, A1, d1⟩, .bool true]) (by simp [results, Tryz.results87, go_sem]) rfl ?_
    exact ⟨⟨A1, d1, rfl, ((OwnF.base HO1.out (by simp [go_sem]) (by simp)).grew (grew_alloc (grew_refl _))).less (by simp [go_sem] <;> omega)⟩, by (repeat (first | with_reducible exact grew_refl _ | with_reducible assumption | with_reducible refine grew_split ?_ | with_reducible refine grew_mk ?_ | with_reducible refine grew_plus ?_ | with_reducible refine grew_alloc ?_ | with_reducible refine grew_drew ?_ | (with_reducible refine grew_set ?_ (by first | exact Nat.le_refl _ | omega | (simp [go_sem]; done) | (simp [go_sem]; omega)))))⟩
end Go.Proofs.YtecghfcgahgfiaaGreatDoor
/- How many lines are possible: the greedy count over the sorted minutes is what picking the least again and again gives. No program in sight. -/
namespace Go.Proofs.YtecghfcgahgfiaaGreatDoor

def mAt (v : DayC) (i : Nat) : Int := if h : i < v.lines.length then v.lines[i].minutes else 0
def openB (v : DayC) (i : Nat) : Bool := !doneAt v.lines i && decide ((i : Int) + 1 ≠ v.line)
def openTo (v : DayC) : Nat → List Int
  | 0 => []
  | k + 1 => if openB v k then openTo v k ++ [mAt v k] else openTo v k
theorem openTo_len (v : DayC) : ∀ k, (openTo v k).length ≤ k := by
  intro k
  induction k with
  | zero => simp [openTo]
  | succ k ih => simp only [openTo]; split <;> (try simp) <;> omega
def srt (l : List Int) : List Int := l.mergeSort fun x y => decide (x ≤ y)
def greedy (S : List Int) (L : Int) : Nat → Int × Int
  | 0 => (0, L)
  | k + 1 => if h : k < S.length then (if S[k] ≤ (greedy S L k).2 then ((greedy S L k).1 + 1, (greedy S L k).2 - S[k]) else greedy S L k) else greedy S L k
def remTo (v : DayC) (T : List Int) : Nat → List Int
  | 0 => []
  | k + 1 => if openB v k && !T.contains (k : Int) then remTo v T k ++ [mAt v k] else remTo v T k
theorem rem_nil (v : DayC) : ∀ k, remTo v [] k = openTo v k := by
  intro k
  induction k with
  | zero => rfl
  | succ k ih => simp [remTo, openTo, ih]
theorem has_snoc (T : List Int) (b k : Nat) : (T ++ [(b : Int)]).contains (k : Int) = (T.contains (k : Int) || decide (k = b)) := by
  simp only [List.contains_eq_mem, List.mem_append, List.mem_singleton]
  by_cases h : k = b
  · simp [h]
  · have : (k : Int) ≠ (b : Int) := by omega
    simp [h, this]
theorem rem_same (v : DayC) (T : List Int) (b : Nat) : ∀ k, k ≤ b → remTo v (T ++ [(b : Int)]) k = remTo v T k := by
  intro k
  induction k with
  | zero => intro _; rfl
  | succ k ih =>
    intro hk
    have h : decide (k = b) = false := by simp; omega
    simp only [remTo, ih (by omega), has_snoc, h, Bool.or_false]
theorem rem_cons (v : DayC) (T : List Int) (b : Nat) (ho : openB v b = true) (hT : T.contains (b : Int) = false) : ∀ k, b < k → (remTo v T k).Perm (mAt v b :: remTo v (T ++ [(b : Int)]) k) := by
  intro k
  induction k with
  | zero => intro h; omega
  | succ k ih =>
    intro hk
    by_cases h : k = b
    · subst h
      have h1 : remTo v T (k + 1) = remTo v T k ++ [mAt v k] := by simp only [remTo, ho, hT]; simp
      have h2 : remTo v (T ++ [(k : Int)]) (k + 1) = remTo v T k := by
        simp only [remTo, has_snoc, hT, ho]
        simp [rem_same v T k k (Nat.le_refl _)]
      rw [h1, h2]
      exact List.perm_append_singleton _ _
    · have hd : decide (k = b) = false := by simp [h]
      have hi := ih (by omega)
      simp only [remTo, has_snoc, hd, Bool.or_false]
      split
      · exact (hi.append_right [mAt v k]).trans (by simp)
      · exact hi
theorem mem_rem (v : DayC) (T : List Int) (x : Int) : ∀ k, x ∈ remTo v T k ↔ ∃ i, i < k ∧ openB v i = true ∧ T.contains (i : Int) = false ∧ x = mAt v i := by
  intro k
  induction k with
  | zero => simp [remTo]
  | succ k ih =>
    simp only [remTo]
    constructor
    · intro h
      split at h
      · rename_i hc
        simp only [Bool.and_eq_true, Bool.not_eq_true'] at hc
        rcases List.mem_append.1 h with h | h
        · obtain ⟨i, h1, h2⟩ := ih.1 h; exact ⟨i, by omega, h2⟩
        · simp at h; exact ⟨k, by omega, hc.1, hc.2, h⟩
      · obtain ⟨i, h1, h2⟩ := ih.1 h; exact ⟨i, by omega, h2⟩
    · rintro ⟨i, h1, h2, h3, h4⟩
      by_cases hik : i = k
      · subst hik
        rw [if_pos (by simp only [h2, h3]; rfl)]
        exact List.mem_append.2 (.inr (by simp [h4]))
      · have := ih.2 ⟨i, by omega, h2, h3, h4⟩
        split
        · exact List.mem_append.2 (.inl this)
        · exact this
/-- What the inner search has found among the first k. -/
def BestR (v : DayC) (T : List Int) (k : Nat) (best : Int) : Prop :=
  (best = -1 ∧ ∀ i, i < k → openB v i = true → T.contains (i : Int) = true) ∨
  (∃ b : Nat, best = (b : Int) ∧ b < k ∧ openB v b = true ∧ T.contains (b : Int) = false ∧ ∀ i, i < k → openB v i = true → T.contains (i : Int) = false → mAt v b ≤ mAt v i)
theorem BestR.zero (v : DayC) (T : List Int) : BestR v T 0 (-1) := .inl ⟨rfl, fun i h => by omega⟩
theorem BestR.skip {v : DayC} {T : List Int} {k : Nat} {best : Int} (h : BestR v T k best) (hk : openB v k = false ∨ T.contains (k : Int) = true) : BestR v T (k + 1) best := by
  rcases h with ⟨h1, h2⟩ | ⟨b, h1, h2, h3, h4, h5⟩
  · refine .inl ⟨h1, fun i hi ho => ?_⟩
    by_cases e : i = k
    · subst e; rcases hk with hk | hk
      · rw [hk] at ho; cases ho
      · exact hk
    · exact h2 i (by omega) ho
  · refine .inr ⟨b, h1, by omega, h3, h4, fun i hi ho hc => ?_⟩
    by_cases e : i = k
    · subst e; rcases hk with hk | hk
      · rw [hk] at ho; cases ho
      · rw [hk] at hc; cases hc
    · exact h5 i (by omega) ho hc
theorem BestR.first {v : DayC} {T : List Int} {k : Nat} (h : BestR v T k (-1)) (ho : openB v k = true) (hc : T.contains (k : Int) = false) : BestR v T (k + 1) k := by
  rcases h with ⟨_, h2⟩ | ⟨b, h1, _⟩
  · refine .inr ⟨k, rfl, by omega, ho, hc, fun i hi ho' hc' => ?_⟩
    by_cases e : i = k
    · subst e; exact Int.le_refl _
    · have := h2 i (by omega) ho'; rw [this] at hc'; cases hc'
  · omega
theorem BestR.less {v : DayC} {T : List Int} {k b : Nat} (h : BestR v T k (b : Int)) (ho : openB v k = true) (hc : T.contains (k : Int) = false) (hl : mAt v k < mAt v b) : BestR v T (k + 1) k := by
  rcases h with ⟨h1, _⟩ | ⟨b', h1, h2, h3, h4, h5⟩
  · omega
  · obtain rfl : b = b' := by omega
    refine .inr ⟨k, rfl, by omega, ho, hc, fun i hi ho' hc' => ?_⟩
    by_cases e : i = k
    · subst e; exact Int.le_refl _
    · have := h5 i (by omega) ho' hc'; omega
theorem BestR.more {v : DayC} {T : List Int} {k b : Nat} (h : BestR v T k (b : Int)) (hl : ¬ mAt v k < mAt v b) : BestR v T (k + 1) b := by
  rcases h with ⟨h1, _⟩ | ⟨b', h1, h2, h3, h4, h5⟩
  · omega
  · obtain rfl : b = b' := by omega
    refine .inr ⟨b, rfl, by omega, h3, h4, fun i hi ho' hc' => ?_⟩
    by_cases e : i = k
    · subst e; omega
    · exact h5 i (by omega) ho' hc'
def sOf (v : DayC) : List Int := srt (openTo v v.lines.length)
def Picked (v : DayC) (T : List Int) (left : Int) : Prop :=
  (remTo v T v.lines.length).Perm ((sOf v).drop T.length) ∧ T.length ≤ (sOf v).length ∧ greedy (sOf v) (1440 - v.minute) T.length = ((T.length : Int), left)
theorem srt_perm (l : List Int) : (srt l).Perm l := List.mergeSort_perm _ _
theorem srt_le (l : List Int) {i j : Nat} (hij : i ≤ j) (hj : j < (srt l).length) : (srt l)[i] ≤ (srt l)[j] := by
  have hp : (srt l).Pairwise (fun a b => decide (a ≤ b) = true) := List.pairwise_mergeSort (fun a b c => by simp; omega) (fun a b => by simp; omega) l
  by_cases e : i = j
  · subst e; exact Int.le_refl _
  · have := List.pairwise_iff_getElem.1 hp i j (by omega) hj (by omega)
    simpa using this
theorem sOf_le (v : DayC) {i j : Nat} (hij : i ≤ j) (hj : j < (sOf v).length) : (sOf v)[i] ≤ (sOf v)[j] := srt_le _ hij hj
theorem Picked.start (v : DayC) : Picked v [] (1440 - v.minute) := ⟨by rw [rem_nil]; exact (srt_perm _).symm, by simp, by simp [greedy]⟩
theorem Picked.least {v : DayC} {T : List Int} {left : Int} {b : Nat} (h : Picked v T left) (hb : BestR v T v.lines.length (b : Int)) : ∃ ht : T.length < (sOf v).length, (sOf v)[T.length] = mAt v b := by
  obtain ⟨hp, _, _⟩ := h
  rcases hb with ⟨h1, _⟩ | ⟨b', h1, h2, h3, h4, h5⟩
  · omega
  · obtain rfl : b = b' := by omega
    have hm : mAt v b ∈ (sOf v).drop T.length := hp.mem_iff.1 ((mem_rem v T _ _).2 ⟨b, h2, h3, h4, rfl⟩)
    have ht : T.length < (sOf v).length := by
      rcases Nat.lt_or_ge T.length (sOf v).length with h | h
      · exact h
      · rw [List.drop_eq_nil_of_le h] at hm; cases hm
    refine ⟨ht, Int.le_antisymm ?_ ?_⟩
    · obtain ⟨i, hi, e⟩ := List.mem_iff_getElem.1 hm
      rw [List.getElem_drop] at e
      rw [← e]
      exact sOf_le v (by omega) _
    · have h6 : (sOf v)[T.length] ∈ (sOf v).drop T.length := List.mem_iff_getElem.2 ⟨0, by rw [List.length_drop]; omega, by rw [List.getElem_drop]; rfl⟩
      obtain ⟨i, hi, ho, hc, e⟩ := (mem_rem v T _ _).1 (hp.mem_iff.2 h6)
      rw [e]
      exact h5 i hi ho hc
theorem Picked.step {v : DayC} {T : List Int} {left : Int} {b : Nat} (h : Picked v T left) (hb : BestR v T v.lines.length (b : Int)) (hl : mAt v b ≤ left) : Picked v (T ++ [(b : Int)]) (left - mAt v b) := by
  obtain ⟨ht, e⟩ := h.least hb
  obtain ⟨hp, h1, hg⟩ := h
  rcases hb with ⟨h0, _⟩ | ⟨b', h0, h2, h3, h4, h5⟩
  · omega
  · obtain rfl : b = b' := by omega
    refine ⟨?_, by simp; omega, ?_⟩
    · have hq := (rem_cons v T b h3 h4 v.lines.length h2).symm.trans hp
      rw [List.drop_eq_getElem_cons ht, e] at hq
      simpa using hq.cons_inv
    · have : (T ++ [(b : Int)]).length = T.length + 1 := by simp
      rw [this]
      simp only [greedy, ht, ↓reduceDIte, hg, e, hl, if_true]
      simp
theorem Picked.none {v : DayC} {T : List Int} {left : Int} (h : Picked v T left) (hb : BestR v T v.lines.length (-1)) : T.length = (sOf v).length := by
  obtain ⟨hp, h1, _⟩ := h
  rcases hb with ⟨_, h2⟩ | ⟨b', h0, _⟩
  · have : remTo v T v.lines.length = [] := by
      apply List.eq_nil_iff_forall_not_mem.2
      intro x hx
      obtain ⟨i, hi, ho, hc, _⟩ := (mem_rem v T _ _).1 hx
      rw [h2 i hi ho] at hc; cases hc
    rw [this] at hp
    have := hp.symm.eq_nil
    have := List.drop_eq_nil_iff.1 this
    omega
  · omega
theorem greedy_stuck {S : List Int} {L left c : Int} {t : Nat} (hg : greedy S L t = (c, left)) (hs : ∀ j (hj : j < S.length), t ≤ j → left < S[j]) : ∀ k, t ≤ k → greedy S L k = (c, left) := by
  intro k
  induction k with
  | zero => intro h; obtain rfl : t = 0 := by omega
            exact hg
  | succ k ih =>
    intro h
    by_cases e : t = k + 1
    · subst e; exact hg
    · have hk := ih (by omega)
      simp only [greedy, hk]
      split
      · rename_i hlt
        rw [if_neg (by have := hs k hlt (by omega); omega)]
      · rfl
theorem Picked.stop {v : DayC} {T : List Int} {left : Int} {b : Nat} (h : Picked v T left) (hb : BestR v T v.lines.length (b : Int)) (hl : left < mAt v b) : (greedy (sOf v) (1440 - v.minute) (sOf v).length).1 = T.length := by
  obtain ⟨ht, e⟩ := h.least hb
  rw [greedy_stuck h.2.2 (fun j hj htj => Int.lt_of_lt_of_le (by rw [e]; exact hl) (sOf_le v htj hj)) _ (by omega)]
theorem Picked.full {v : DayC} {T : List Int} {left : Int} (h : Picked v T left) (hl : T.length = (sOf v).length) : (greedy (sOf v) (1440 - v.minute) (sOf v).length).1 = T.length := by rw [← hl, h.2.2]
theorem sOf_len (v : DayC) : (sOf v).length ≤ v.lines.length := by rw [sOf, (srt_perm _).length_eq]; exact openTo_len _ _
def mostF (v : DayC) : Int × Bool := if v.ok then ((greedy (sOf v) (1440 - v.minute) (sOf v).length).1, true) else (0, false)
end Go.Proofs.YtecghfcgahgfiaaGreatDoor
