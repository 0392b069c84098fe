/- A step of a day: both packages' StepDay. -/
import Derived.Test.YtcljcbbkbepmjaaDoorD12
import Derived.Test.YtcljcbbkbepmjaaDoorD13
import Derived.Test.YtcljcbbkbepmjaaDoorD14
import Derived.Test.YtcljcbbkbepmjaaDoorD15
namespace Go.Proofs.YtcljcbbkbepmjaaDoor
open Go.RowKit

def stepAll (v : DayC) (k x : Int) : DayC × Bool := if v.ok then stepF v k x else (noDay, false)
theorem stepAll_bad {v : DayC} {k x : Int} (h : v.ok = false) : stepAll v k x = (noDay, false) := by simp [stepAll, h]
theorem stepAll_good {v : DayC} {k x : Int} (h : v.ok = true) : stepAll v k x = stepF v k x := by simp [stepAll, h]
theorem stepF_notB {v : DayC} {k x : Int} (h : stepB v k x = false) : stepF v k x = (noDay, false) := by
  by_cases h1 : k = 1
  · subst h1
    simp [stepB] at h
    exact stepF_none (by simp [candF]; omega)
  by_cases h4 : k = 4
  · subst h4
    by_cases hc : v.state = 1 ∧ castB v = true
    · refine stepF_bad (d := ⟨v.minute, 2, v.lines, x, v.minute, v.cast, v.fuel⟩) (by simp [candF, hc]) ?_
      simp [stepB] at h
      simp [DayC.ok, DayC.post, h]
    · exact stepF_none (by simp [candF, hc])
  refine stepF_none ?_
  simp only [stepB, if_neg h1, if_neg h4] at h
  by_cases hx : x = 0
  · subst hx
    simp [inB] at h
    have e2 : k ≠ 2 := by omega
    have e3 : k ≠ 3 := by omega
    have e5 : k ≠ 5 := by omega
    have e6 : k ≠ 6 := by omega
    have e7 : k ≠ 7 := by omega
    simp [candF, h1, h4, e2, e3, e5, e6, e7]
  · simp [candF, h1, h4, hx]
theorem stepF_no {v : DayC} {k x : Int} (h : (stepF v k x).2 = false) : stepF v k x = (noDay, false) := by
  unfold stepF at h ⊢
  cases hc : candF v k x with
  | none => rfl
  | some d =>
    simp only [hc] at h ⊢
    cases hd : d.ok
    · simp
    · simp [hd] at h
theorem stepF_ok {v : DayC} {k x : Int} (h : (stepF v k x).2 = true) : (stepF v k x).1.ok = true := by
  unfold stepF at h ⊢
  cases hc : candF v k x with
  | none => simp [hc] at h
  | some d =>
    simp only [hc] at h ⊢
    cases hd : d.ok
    · simp [hd] at h
    · simp [hd]
theorem s_l25Make (v : DayV) (k x : Int) (p : DayC × Bool) (hp : stepF v.core k x = p) (w : World) (hok : v.core.ok = true) (hs : stepB v.core k x = true) (hv : v.At w) :
    Calls Tryd.prog 59 #[v.val, .agg #[.int .i64 k, .int .i64 x]] w fun e w' => MakePost w.heap.size p e w' ∧ ∃ g, w' = plus w g := by
  obtain ⟨⟨minute, state, lines, line, since, cast, fuel⟩, A, c⟩ := v
  have hk : k = 1 ∨ k = 2 ∨ k = 3 ∨ k = 4 ∨ k = 5 ∨ k = 6 ∨ k = 7 := by
    simp only [stepB, inB] at hs
    by_cases h1 : k = 1
    · exact .inl h1
    by_cases h4 : k = 4
    · simp [h4]
    simp [h1, h4] at hs
    omega
  obtain rfl | rfl | rfl | rfl | rfl | rfl | rfl := hk
  · exact s_make1 minute state lines line since cast fuel A c x p hp w hok hs hv
  · exact s_make2 minute state lines line since cast fuel A c x p hp w hok hs hv
  · exact s_make3 minute state lines line since cast fuel A c x p hp w hok hs hv
  · exact s_make4 minute state lines line since cast fuel A c x p hp w hok hs hv
  · exact s_make5 minute state lines line since cast fuel A c x p hp w hok hs hv
  · exact s_make6 minute state lines line since cast fuel A c x p hp w hok hs hv
  · exact s_make7 minute state lines line since cast fuel A c x p hp w hok hs hv
set_option maxHeartbeats 4000000 in
theorem i_StepDay (v : DayV) (k x : Int) (w : World) (hv : v.At w) :
    Calls Tryd.prog 13 #[v.val, .agg #[.int .i64 k, .int .i64 x]] w fun e w' => DayPost w.heap.size (stepAll v.core k x) e w' ∧ ∃ g, w' = plus w g := by
  have HV := hid hv
  clear hv
  cases hok : v.core.ok
  · have HK := hid hok
    rw [stepAll_bad hok]
    clear hok
    go_enter Tryd.func13, Tryd.ntmps13
    go_wp2_with fail
    refine (i_IsSurveyDay v _ HK.out _ (HV.out.grew (by (repeat (first | with_reducible exact grew_refl _ | with_reducible assumption | with_reducible refine grew_split ?_ | with_reducible refine grew_mk ?_ | with_reducible refine grew_plus ?_ | with_reducible refine grew_alloc ?_ | with_reducible refine grew_drew ?_ | (with_reducible refine grew_set ?_ (by first | exact Nat.le_refl _ | omega | (simp [go_sem]; done) | (simp [go_sem]; omega)))))))).mono ?_
    (rintro e w' ⟨rfl, gx, rfl⟩)
    go_wp2_with fail
    refine bodyPost_ret (v := .tuple #[DayV.val ⟨noDay, none, 0⟩, .bool false]) (by simp [results, Tryd.results13, go_sem, noDay]) rfl ?_
    exact ⟨DayPost.no, by (repeat (first | with_reducible exact grew_refl _ | with_reducible assumption | with_reducible refine grew_split ?_ | with_reducible refine grew_mk ?_ | with_reducible refine grew_plus ?_ | with_reducible refine grew_alloc ?_ | with_reducible refine grew_drew ?_ | (with_reducible refine grew_set ?_ (by first | exact Nat.le_refl _ | omega | (simp [go_sem]; done) | (simp [go_sem]; omega)))))⟩
  · have HK := hid hok
    rw [stepAll_good hok]
    clear hok
    obtain ⟨p, hp⟩ : ∃ p, stepF v.core k x = p := ⟨_, rfl⟩
    rw [hp]
    have HP := hid hp
    clear hp
    go_enter Tryd.func13, Tryd.ntmps13
    go_wp2_with fail
    refine (i_IsSurveyDay v _ HK.out _ (HV.out.grew (by (repeat (first | with_reducible exact grew_refl _ | with_reducible assumption | with_reducible refine grew_split ?_ | with_reducible refine grew_mk ?_ | with_reducible refine grew_plus ?_ | with_reducible refine grew_alloc ?_ | with_reducible refine grew_drew ?_ | (with_reducible refine grew_set ?_ (by first | exact Nat.le_refl _ | omega | (simp [go_sem]; done) | (simp [go_sem]; omega)))))))).mono ?_
    (rintro e w' ⟨rfl, gx, rfl⟩)
    go_wp2_with fail
    refine (i_stepDay v k x p HP.out _ HK.out (HV.out.grew (by (repeat (first | with_reducible exact grew_refl _ | with_reducible assumption | with_reducible refine grew_split ?_ | with_reducible refine grew_mk ?_ | with_reducible refine grew_plus ?_ | with_reducible refine grew_alloc ?_ | with_reducible refine grew_drew ?_ | (with_reducible refine grew_set ?_ (by first | exact Nat.le_refl _ | omega | (simp [go_sem]; done) | (simp [go_sem]; omega)))))))).mono ?_
    rintro e w' ⟨⟨A1, d1, rfl, hO1⟩, gx1, rfl⟩
    (try rw [plus_plus] at hO1)
    have HO1 := hid hO1
    clear hO1
    go_wp2_with fail
    refine bodyPost_ret (v := .tuple #[DayV.val ⟨p.1, A1, d1⟩, .bool p.2]) (by simp [results, Tryd.results13, go_sem]) rfl ?_
    exact ⟨⟨A1, d1, rfl, (OwnF.base HO1.out (by simp [go_sem]) (by simp)).less (by simp [go_sem] <;> omega)⟩, by (repeat (first | with_reducible exact grew_refl _ | with_reducible assumption | with_reducible refine grew_split ?_ | with_reducible refine grew_mk ?_ | with_reducible refine grew_plus ?_ | with_reducible refine grew_alloc ?_ | with_reducible refine grew_drew ?_ | (with_reducible refine grew_set ?_ (by first | exact Nat.le_refl _ | omega | (simp [go_sem]; done) | (simp [go_sem]; omega)))))⟩
set_option maxHeartbeats 4000000 in
theorem s_StepDay (v : DayV) (k x : Int) (w : World) (hv : v.At w) :
    Calls Tryd.prog 43 #[v.val, .agg #[.int .i64 k, .int .i64 x]] w fun e w' => DayPost w.heap.size (stepAll v.core k x) e w' ∧ ∃ g, w' = plus w g := by
  have HV := hid hv
  clear hv
  cases hok : v.core.ok
  · have HK := hid hok
    rw [stepAll_bad hok]
    clear hok
    go_enter Tryd.func43, Tryd.ntmps43
    go_wp2_with fail
    refine (s_l25Good v _ HK.out _ (HV.out.grew (by (repeat (first | with_reducible exact grew_refl _ | with_reducible assumption | with_reducible refine grew_split ?_ | with_reducible refine grew_mk ?_ | with_reducible refine grew_plus ?_ | with_reducible refine grew_alloc ?_ | with_reducible refine grew_drew ?_ | (with_reducible refine grew_set ?_ (by first | exact Nat.le_refl _ | omega | (simp [go_sem]; done) | (simp [go_sem]; omega)))))))).mono ?_
    (rintro e w' ⟨rfl, gx, rfl⟩)
    go_wp2_with fail
    refine bodyPost_ret (v := .tuple #[DayV.val ⟨noDay, none, 0⟩, .bool false]) (by simp [results, Tryd.results43, go_sem, noDay]) rfl ?_
    exact ⟨DayPost.no, by (repeat (first | with_reducible exact grew_refl _ | with_reducible assumption | with_reducible refine grew_split ?_ | with_reducible refine grew_mk ?_ | with_reducible refine grew_plus ?_ | with_reducible refine grew_alloc ?_ | with_reducible refine grew_drew ?_ | (with_reducible refine grew_set ?_ (by first | exact Nat.le_refl _ | omega | (simp [go_sem]; done) | (simp [go_sem]; omega)))))⟩
  have HK := hid hok
  rw [stepAll_good hok]
  have hl8 := (DayC.bounds hok).2.2.2.2.2.1
  clear hok
  cases hb : stepB v.core k x
  · have HB := hid hb
    rw [stepF_notB hb]
    clear hb
    go_enter Tryd.func43, Tryd.ntmps43
    go_wp2_with (first | (go_at_call 22; refine (s_l25Good v _ HK.out _ (HV.out.grew (by (repeat (first | with_reducible exact grew_refl _ | with_reducible assumption | with_reducible refine grew_split ?_ | with_reducible refine grew_mk ?_ | with_reducible refine grew_plus ?_ | with_reducible refine grew_alloc ?_ | with_reducible refine grew_drew ?_ | (with_reducible refine grew_set ?_ (by first | exact Nat.le_refl _ | omega | (simp [go_sem]; done) | (simp [go_sem]; omega)))))))).mono ?_; (rintro e w' ⟨rfl, gx, rfl⟩)) | (go_at_call 58; refine (s_l25Step v k x _ HB.out _ hl8).mono ?_; (rintro e w' ⟨rfl, gx, rfl⟩)))
    refine bodyPost_ret (v := .tuple #[DayV.val ⟨noDay, none, 0⟩, .bool false]) (by simp [results, Tryd.results43, go_sem, noDay]) rfl ?_
    exact ⟨DayPost.no, by (repeat (first | with_reducible exact grew_refl _ | with_reducible assumption | with_reducible refine grew_split ?_ | with_reducible refine grew_mk ?_ | with_reducible refine grew_plus ?_ | with_reducible refine grew_alloc ?_ | with_reducible refine grew_drew ?_ | (with_reducible refine grew_set ?_ (by first | exact Nat.le_refl _ | omega | (simp [go_sem]; done) | (simp [go_sem]; omega)))))⟩
  have HB := hid hb
  clear hb
  cases h2 : (stepF v.core k x).2
  · rw [stepF_no h2]
    have H2 := hid h2
    clear h2
    go_enter Tryd.func43, Tryd.ntmps43
    go_wp2_with (first | (go_at_call 22; refine (s_l25Good v _ HK.out _ (HV.out.grew (by (repeat (first | with_reducible exact grew_refl _ | with_reducible assumption | with_reducible refine grew_split ?_ | with_reducible refine grew_mk ?_ | with_reducible refine grew_plus ?_ | with_reducible refine grew_alloc ?_ | with_reducible refine grew_drew ?_ | (with_reducible refine grew_set ?_ (by first | exact Nat.le_refl _ | omega | (simp [go_sem]; done) | (simp [go_sem]; omega)))))))).mono ?_; (rintro e w' ⟨rfl, gx, rfl⟩)) | (go_at_call 58; refine (s_l25Step v k x _ HB.out _ hl8).mono ?_; (rintro e w' ⟨rfl, gx, rfl⟩)))
    refine (s_l25Make v k x (noDay, false) (stepF_no H2.out) _ HK.out HB.out (HV.out.grew (by (repeat (first | with_reducible exact grew_refl _ | with_reducible assumption | with_reducible refine grew_split ?_ | with_reducible refine grew_mk ?_ | with_reducible refine grew_plus ?_ | with_reducible refine grew_alloc ?_ | with_reducible refine grew_drew ?_ | (with_reducible refine grew_set ?_ (by first | exact Nat.le_refl _ | omega | (simp [go_sem]; done) | (simp [go_sem]; omega)))))))).mono ?_
    rintro e w' ⟨⟨d, A1, d1, rfl, hO1⟩, gx1, rfl⟩
    clear hO1
    go_wp2_with fail
    refine bodyPost_ret (v := .tuple #[DayV.val ⟨noDay, none, 0⟩, .bool false]) (by simp [results, Tryd.results43, go_sem, noDay]) rfl ?_
    exact ⟨DayPost.no, by (repeat (first | with_reducible exact grew_refl _ | with_reducible assumption | with_reducible refine grew_split ?_ | with_reducible refine grew_mk ?_ | with_reducible refine grew_plus ?_ | with_reducible refine grew_alloc ?_ | with_reducible refine grew_drew ?_ | (with_reducible refine grew_set ?_ (by first | exact Nat.le_refl _ | omega | (simp [go_sem]; done) | (simp [go_sem]; omega)))))⟩
  · obtain ⟨p, hp⟩ : ∃ p, stepF v.core k x = p := ⟨_, rfl⟩
    rw [hp]
    obtain ⟨p, q⟩ := p
    rw [hp] at h2
    simp only at h2
    subst h2
    have HP := hid hp
    clear hp
    go_enter Tryd.func43, Tryd.ntmps43
    go_wp2_with (first | (go_at_call 22; refine (s_l25Good v _ HK.out _ (HV.out.grew (by (repeat (first | with_reducible exact grew_refl _ | with_reducible assumption | with_reducible refine grew_split ?_ | with_reducible refine grew_mk ?_ | with_reducible refine grew_plus ?_ | with_reducible refine grew_alloc ?_ | with_reducible refine grew_drew ?_ | (with_reducible refine grew_set ?_ (by first | exact Nat.le_refl _ | omega | (simp [go_sem]; done) | (simp [go_sem]; omega)))))))).mono ?_; (rintro e w' ⟨rfl, gx, rfl⟩)) | (go_at_call 58; refine (s_l25Step v k x _ HB.out _ hl8).mono ?_; (rintro e w' ⟨rfl, gx, rfl⟩)))
    refine (s_l25Make v k x (p, true) HP.out _ HK.out HB.out (HV.out.grew (by (repeat (first | with_reducible exact grew_refl _ | with_reducible assumption | with_reducible refine grew_split ?_ | with_reducible refine grew_mk ?_ | with_reducible refine grew_plus ?_ | with_reducible refine grew_alloc ?_ | with_reducible refine grew_drew ?_ | (with_reducible refine grew_set ?_ (by first | exact Nat.le_refl _ | omega | (simp [go_sem]; done) | (simp [go_sem]; omega)))))))).mono ?_
    rintro e w' ⟨⟨d, A1, d1, rfl, hO1⟩, gx1, rfl⟩
    obtain ⟨rfl, hO2⟩ := hO1 rfl
    (try rw [plus_plus] at hO2)
    have HO1 := hid hO2
    clear hO1 hO2
    go_wp2_with fail
    refine bodyPost_ret (v := .tuple #[DayV.val ⟨d, A1, d1⟩, .bool true]) (by simp [results, Tryd.results43, go_sem]) rfl ?_
    exact ⟨⟨A1, d1, rfl, ((OwnF.base HO1.out (by simp [go_sem]) (by simp)).grew (grew_alloc (grew_refl _))).less (by simp [go_sem] <;> omega)⟩, by (repeat (first | with_reducible exact grew_refl _ | with_reducible assumption | with_reducible refine grew_split ?_ | with_reducible refine grew_mk ?_ | with_reducible refine grew_plus ?_ | with_reducible refine grew_alloc ?_ | with_reducible refine grew_drew ?_ | (with_reducible refine grew_set ?_ (by first | exact Nat.le_refl _ | omega | (simp [go_sem]; done) | (simp [go_sem]; omega)))))⟩
end Go.Proofs.YtcljcbbkbepmjaaDoor
