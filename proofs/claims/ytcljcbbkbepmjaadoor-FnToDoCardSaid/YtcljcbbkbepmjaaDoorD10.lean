/- A step of a day that is on a line. -/
import Derived.Test.YtcljcbbkbepmjaaDoorD9
namespace Go.Proofs.YtcljcbbkbepmjaaDoor
open Go.RowKit
theorem setDone_len (l : List LineR) (j : Nat) : (setDone l j).length = l.length := by unfold setDone; split <;> simp
theorem OwnF.setFar {α : Type} {B : Nat} {e : TypeId} {s : Nat} {cells : α → List Value} {w : World} {A : Option Addr} {l : List α} {b i : Nat} {v : Value} (h : OwnF B e s cells w A l) (hb : b < B) : OwnF B e s cells (w.setCell ⟨b, i, none⟩ v) A l :=
  h.kept (row := some b) (grown_set (grown_refl w _)) (fun k hk => by injection hk with hk; subst hk; exact hb)
theorem OwnF.set7 {α : Type} {B : Nat} {e : TypeId} {s : Nat} {cells : α → List Value} {w : World} {A : Option Addr} {l : List α} {b : Nat} {v0 v1 v2 v3 v4 v5 v6 : Value} (h : OwnF B e s cells w A l) (hb : b < B) : OwnF B e s cells (((((((w.setCell ⟨b, 0, none⟩ v0).setCell ⟨b, 1, none⟩ v1).setCell ⟨b, 2, none⟩ v2).setCell ⟨b, 3, none⟩ v3).setCell ⟨b, 4, none⟩ v4).setCell ⟨b, 5, none⟩ v5).setCell ⟨b, 6, none⟩ v6) A l :=
  ((((((h.setFar hb).setFar hb).setFar hb).setFar hb).setFar hb).setFar hb).setFar hb
theorem filled_done {cs : Array Value} {l : List LineR} {j : Nat} (hF : Filled cs 2 LineR.row l l.length) (hz : l.length * 2 ≤ cs.size) (hj : j < l.length) : Filled (cs.setIfInBounds (j * 2 + 1) (.bool true)) 2 LineR.row (setDone l j) (setDone l j).length := by
  intro i hi _ q u hu
  have hi' : i < l.length := by rw [setDone_len] at hi; exact hi
  simp only [setDone, hj, ↓reduceDIte, List.getElem_set] at hu
  rw [Array.getElem?_setIfInBounds]
  by_cases hij : j = i
  · subst hij
    rw [if_pos rfl] at hu
    match q, hu with
    | 0, hu => rw [if_neg (by omega)]; exact hF j hi' hi' 0 u hu
    | 1, hu => rw [if_pos rfl, if_pos (by omega)]; exact hu
  · rw [if_neg hij] at hu
    have hq := (List.getElem?_eq_some_iff.1 hu).1
    simp [LineR.row] at hq
    rw [if_neg (by omega)]
    exact hF i hi' hi' q u hu
set_option maxHeartbeats 4000000 in
set_option maxRecDepth 10000 in
theorem i_stepDay2 (minute : Int) (lines : List LineR) (line since cast fuel : Int) (A : Option Addr) (c : Nat) (k x : Int) (p : DayC × Bool) (hp : stepF ⟨minute, 2, lines, line, since, cast, fuel⟩ k x = p) (w : World) (hok : DayC.ok ⟨minute, 2, lines, line, since, cast, fuel⟩ = true) (hv : DayV.At w ⟨⟨minute, 2, lines, line, since, cast, fuel⟩, A, c⟩) :
    Calls Tryd.prog 26 #[DayV.val ⟨⟨minute, 2, lines, line, since, cast, fuel⟩, A, c⟩, .agg #[.int .i64 k, .int .i64 x]] w fun e w' => DayPost w.heap.size p e w' ∧ ∃ g, w' = plus w g := by
  have HV := hid hv
  have HK := hid hok
  obtain ⟨b1, b2, b3, b4, b5, b6, b7, b8, b9, b10, b11, b12, b13, b14⟩ := DayC.bounds hok
  clear hv hok
  simp only at b1 b2 b5 b6 b7 b8 b9 b10 b11 b12 b13 b14 hp
  have HP := hid hp
  clear hp b3 b4
  go_enter Tryd.func26, Tryd.ntmps26
  go_wp2_with fail
  refine (i_newDay ⟨⟨minute, 2, lines, line, since, cast, fuel⟩, A, c⟩ _ (HV.out.grew (by (repeat (first | with_reducible exact grew_refl _ | with_reducible assumption | with_reducible refine grew_split ?_ | with_reducible refine grew_mk ?_ | with_reducible refine grew_plus ?_ | with_reducible refine grew_alloc ?_ | with_reducible refine grew_drew ?_ | (with_reducible refine grew_set ?_ (by first | exact Nat.le_refl _ | omega | (simp [go_sem]; done) | (simp [go_sem]; omega))))))) (by simp only; omega) b6).mono ?_
  rintro e w' ⟨⟨A1, d1, rfl, hO1⟩, gx1, rfl⟩
  have HO1 := hid hO1
  clear hO1
  obtain ⟨j, rfl⟩ : ∃ j : Nat, line = (j : Int) + 1 := by
    have := HK.out
    simp only [DayC.ok, DayC.post, if_true, inB, Bool.and_eq_true, decide_eq_true_eq] at this
    exact ⟨(line - 1).toNat, by omega⟩
  have hj : j < lines.length := by omega
  by_cases c1 : k = 1 ∧ 1 ≤ x ∧ x ≤ 1440 - minute
  · obtain ⟨rfl, x0, x1⟩ := c1
    have HC := hid (show candF ⟨minute, 2, lines, (j : Int) + 1, since, cast, fuel⟩ 1 x = some ⟨minute + x, 2, lines, (j : Int) + 1, since, cast, fuel - x⟩ by simp [candF, x0, x1])
    ((go_wp2_with fail; all_goals (first | ((refine wp_region_calm (by kernel_rfl) (by kernel_rfl) ?_; (repeat' (first | go_big_quiet_step (fail) | (refine wpQuiet_step (fun K hK => ?_); go_simp; go_ite <;> go_simp <;> (first | (refine hK _ ?_; clear hK K) | (apply Exists.intro; refine ⟨fun _ => ?_, hK _ ?_⟩; (fail); clear hK K))))); all_goals (refine wpQuiet_nil ?_; intro _ hw'; obtain ⟨gq, hw''⟩ := hw'; subst hw'')); go_wp2_with fail) | skip)); cases hcd : DayC.ok ⟨minute + x, 2, lines, (j : Int) + 1, since, cast, fuel - x⟩ with | false => (have HF := hid (stepF_bad HC.out hcd); have HD := hid hcd; clear hcd; refine (i_IsSurveyDay ⟨⟨minute + x, 2, lines, (j : Int) + 1, since, cast, fuel - x⟩, A1, d1⟩ _ HD.out _ ⟨HO1.out.sl.grew (by (repeat (first | with_reducible exact grew_refl _ | with_reducible assumption | with_reducible refine grew_split ?_ | with_reducible refine grew_mk ?_ | with_reducible refine grew_plus ?_ | with_reducible refine grew_alloc ?_ | with_reducible refine grew_drew ?_ | (with_reducible refine grew_set ?_ (by first | exact Nat.le_refl _ | omega | (simp [go_sem]; done) | (simp [go_sem]; omega)))))), by simp only; unfold maxLen; omega⟩).mono ?_; (rintro e w' ⟨rfl, gx, rfl⟩); go_wp2_with fail; (obtain rfl := HP.out.symm.trans HF.out; refine bodyPost_ret (v := .tuple #[DayV.val ⟨noDay, none, 0⟩, .bool false]) (by simp [results, Tryd.results26, go_sem, noDay]) rfl ?_; exact ⟨DayPost.no, by (repeat (first | with_reducible exact grew_refl _ | with_reducible assumption | with_reducible refine grew_split ?_ | with_reducible refine grew_mk ?_ | with_reducible refine grew_plus ?_ | with_reducible refine grew_alloc ?_ | with_reducible refine grew_drew ?_ | (with_reducible refine grew_set ?_ (by first | exact Nat.le_refl _ | omega | (simp [go_sem]; done) | (simp [go_sem]; omega)))))⟩)) | true => (have HF := hid (stepF_good HC.out hcd); have HD := hid hcd; clear hcd; refine (i_IsSurveyDay ⟨⟨minute + x, 2, lines, (j : Int) + 1, since, cast, fuel - x⟩, A1, d1⟩ _ HD.out _ ⟨HO1.out.sl.grew (by (repeat (first | with_reducible exact grew_refl _ | with_reducible assumption | with_reducible refine grew_split ?_ | with_reducible refine grew_mk ?_ | with_reducible refine grew_plus ?_ | with_reducible refine grew_alloc ?_ | with_reducible refine grew_drew ?_ | (with_reducible refine grew_set ?_ (by first | exact Nat.le_refl _ | omega | (simp [go_sem]; done) | (simp [go_sem]; omega)))))), by simp only; unfold maxLen; omega⟩).mono ?_; (rintro e w' ⟨rfl, gx, rfl⟩); go_wp2_with fail; (obtain rfl := HP.out.symm.trans HF.out; refine bodyPost_ret (v := .tuple #[DayV.val ⟨⟨minute + x, 2, lines, (j : Int) + 1, since, cast, fuel - x⟩, A1, d1⟩, .bool true]) (by simp [results, Tryd.results26, go_sem]) rfl ?_; exact ⟨⟨A1, d1, rfl, (OwnF.grew (OwnF.base HO1.out (Nat.le_refl _) (by simp)) (grew_plus (grew_alloc (grew_refl _)))).less (by simp; omega)⟩, by (repeat (first | with_reducible exact grew_refl _ | with_reducible assumption | with_reducible refine grew_split ?_ | with_reducible refine grew_mk ?_ | with_reducible refine grew_plus ?_ | with_reducible refine grew_alloc ?_ | with_reducible refine grew_drew ?_ | (with_reducible refine grew_set ?_ (by first | exact Nat.le_refl _ | omega | (simp [go_sem]; done) | (simp [go_sem]; omega)))))⟩)))
  by_cases c2 : k = 6 ∧ x = 0
  · obtain ⟨rfl, rfl⟩ := c2
    have HC := hid (show candF ⟨minute, 2, lines, (j : Int) + 1, since, cast, fuel⟩ 6 0 = some ⟨minute, 1, lines, 0, 0, cast, fuel⟩ by simp [candF])
    ((go_wp2_with fail; all_goals (first | ((refine wp_region_calm (by kernel_rfl) (by kernel_rfl) ?_; (repeat' (first | go_big_quiet_step (fail) | (refine wpQuiet_step (fun K hK => ?_); go_simp; go_ite <;> go_simp <;> (first | (refine hK _ ?_; clear hK K) | (apply Exists.intro; refine ⟨fun _ => ?_, hK _ ?_⟩; (fail); clear hK K))))); all_goals (refine wpQuiet_nil ?_; intro _ hw'; obtain ⟨gq, hw''⟩ := hw'; subst hw'')); go_wp2_with fail) | skip)); cases hcd : DayC.ok ⟨minute, 1, lines, 0, 0, cast, fuel⟩ with | false => (have HF := hid (stepF_bad HC.out hcd); have HD := hid hcd; clear hcd; refine (i_IsSurveyDay ⟨⟨minute, 1, lines, 0, 0, cast, fuel⟩, A1, d1⟩ _ HD.out _ ⟨HO1.out.sl.grew (by (repeat (first | with_reducible exact grew_refl _ | with_reducible assumption | with_reducible refine grew_split ?_ | with_reducible refine grew_mk ?_ | with_reducible refine grew_plus ?_ | with_reducible refine grew_alloc ?_ | with_reducible refine grew_drew ?_ | (with_reducible refine grew_set ?_ (by first | exact Nat.le_refl _ | omega | (simp [go_sem]; done) | (simp [go_sem]; omega)))))), by simp only; unfold maxLen; omega⟩).mono ?_; (rintro e w' ⟨rfl, gx, rfl⟩); go_wp2_with fail; (obtain rfl := HP.out.symm.trans HF.out; refine bodyPost_ret (v := .tuple #[DayV.val ⟨noDay, none, 0⟩, .bool false]) (by simp [results, Tryd.results26, go_sem, noDay]) rfl ?_; exact ⟨DayPost.no, by (repeat (first | with_reducible exact grew_refl _ | with_reducible assumption | with_reducible refine grew_split ?_ | with_reducible refine grew_mk ?_ | with_reducible refine grew_plus ?_ | with_reducible refine grew_alloc ?_ | with_reducible refine grew_drew ?_ | (with_reducible refine grew_set ?_ (by first | exact Nat.le_refl _ | omega | (simp [go_sem]; done) | (simp [go_sem]; omega)))))⟩)) | true => (have HF := hid (stepF_good HC.out hcd); have HD := hid hcd; clear hcd; refine (i_IsSurveyDay ⟨⟨minute, 1, lines, 0, 0, cast, fuel⟩, A1, d1⟩ _ HD.out _ ⟨HO1.out.sl.grew (by (repeat (first | with_reducible exact grew_refl _ | with_reducible assumption | with_reducible refine grew_split ?_ | with_reducible refine grew_mk ?_ | with_reducible refine grew_plus ?_ | with_reducible refine grew_alloc ?_ | with_reducible refine grew_drew ?_ | (with_reducible refine grew_set ?_ (by first | exact Nat.le_refl _ | omega | (simp [go_sem]; done) | (simp [go_sem]; omega)))))), by simp only; unfold maxLen; omega⟩).mono ?_; (rintro e w' ⟨rfl, gx, rfl⟩); go_wp2_with fail; (obtain rfl := HP.out.symm.trans HF.out; refine bodyPost_ret (v := .tuple #[DayV.val ⟨⟨minute, 1, lines, 0, 0, cast, fuel⟩, A1, d1⟩, .bool true]) (by simp [results, Tryd.results26, go_sem]) rfl ?_; exact ⟨⟨A1, d1, rfl, (OwnF.grew (OwnF.base HO1.out (Nat.le_refl _) (by simp)) (grew_plus (grew_alloc (grew_refl _)))).less (by simp; omega)⟩, by (repeat (first | with_reducible exact grew_refl _ | with_reducible assumption | with_reducible refine grew_split ?_ | with_reducible refine grew_mk ?_ | with_reducible refine grew_plus ?_ | with_reducible refine grew_alloc ?_ | with_reducible refine grew_drew ?_ | (with_reducible refine grew_set ?_ (by first | exact Nat.le_refl _ | omega | (simp [go_sem]; done) | (simp [go_sem]; omega)))))⟩)))
  by_cases k5 : k = 5
  · subst k5
    by_cases x0 : x = 0
    · subst x0
      obtain ⟨b, off, rfl, hb, hc⟩ := HV.out.ln.at_ hj
      obtain ⟨hc0, hc1⟩ := lcells hc hj
      clear hc
      by_cases hm : lines[j].minutes ≤ minute - since
      · obtain he | ⟨hl0, g1, cs, rfl, hg1, hB1, hs1, hF1⟩ := HO1.out.split
        · exfalso
          simp only at he
          subst he
          simp at hj
        have hlt1 := hB1.lt
        obtain ⟨⟨_, hz0⟩, ⟨_, hz1⟩, hf0, hf1⟩ := hB1.some2 (j * 2) (by simp only at hs1; omega)
        have HB1 := hid hB1
        have HS1 := hid hs1
        have HF1 := hid hF1
        have HG1 := hid hg1
        clear hB1 hs1 hF1 hl0
        simp [go_sem] at hlt1 hz0 hz1 hf0 hf1 hg1
        have KEY : Hid (∀ W' : World, W'.heap.size = w.heap.size + 1 + 1 + 1 → OwnF (w.heap.size + 1 + 1 + 1) 44 2 LineR.row ((plus W' gx1).setCell ⟨g1, j * 2 + 1, none⟩ (.bool true)) (some ⟨g1, 0, none⟩) (setDone lines j)) := hid (fun W' hW => .inr ⟨g1, _, rfl, hg1, (HB1.out.base (by simp; omega) (by rw [hW]; simp)).set_ _ _, by have := HS1.out; rw [setDone_len, Array.size_setIfInBounds]; exact this, filled_done HF1.out HS1.out hj⟩)
        have HC := hid (show candF ⟨minute, 2, lines, (j : Int) + 1, since, cast, fuel⟩ 5 0 = some ⟨minute, 1, setDone lines j, 0, 0, cast, fuel⟩ by simp [candF, minsAt, hj, hm])
        (go_wp2_with fail; all_goals (first | ((refine wp_region_calm (by kernel_rfl) (by kernel_rfl) ?_; (repeat' (first | go_big_quiet_step (fail) | (refine wpQuiet_step (fun K hK => ?_); go_simp; go_ite <;> go_simp <;> (first | (refine hK _ ?_; clear hK K) | (apply Exists.intro; refine ⟨fun _ => ?_, hK _ ?_⟩; (fail); clear hK K))))); all_goals (refine wpQuiet_nil ?_; intro _ hw'; obtain ⟨gq, hw''⟩ := hw'; subst hw'')); go_wp2_with fail) | skip))
        cases hcd : DayC.ok ⟨minute, 1, setDone lines j, 0, 0, cast, fuel⟩
        · have HF := hid (stepF_bad HC.out hcd)
          have hcall := fun W hv => i_IsSurveyDay ⟨⟨minute, 1, setDone lines j, 0, 0, cast, fuel⟩, some ⟨g1, 0, none⟩, d1⟩ _ hcd W hv
          simp only [DayV.val, setDone_len] at hcall
          have HCALL := hid hcall
          clear hcd hcall
          refine (HCALL.out _ ⟨(KEY.out ((((w.alloc (.cells #[.int .i64 minute, .int .i64 2, .slice (some ⟨b, off, none⟩) lines.length c, .int .i64 ((j : Int) + 1), .int .i64 since, .int .i64 cast, .int .i64 fuel] 26)).alloc (.cells #[.int .i64 5, .int .i64 0] 37)).alloc (.cells #[.int .i64 0, .int .i64 0, .slice none 0 0, .int .i64 0, .int .i64 0, .int .i64 0, .int .i64 0] 26))) (by simp)).sl.grew (by (repeat (first | with_reducible exact grew_refl _ | with_reducible assumption | with_reducible refine grew_split ?_ | with_reducible refine grew_mk ?_ | with_reducible refine grew_plus ?_ | with_reducible refine grew_alloc ?_ | with_reducible refine grew_drew ?_ | (with_reducible refine grew_set ?_ (by first | exact Nat.le_refl _ | omega | (simp [go_sem]; done) | (simp [go_sem]; omega)))))), by simp only [setDone_len]; exact Nat.le_trans b6 (by decide)⟩).mono ?_
          (rintro e w' ⟨rfl, gx, rfl⟩)
          go_wp2_with fail
          (obtain rfl := HP.out.symm.trans HF.out; refine bodyPost_ret (v := .tuple #[DayV.val ⟨noDay, none, 0⟩, .bool false]) (by simp [results, Tryd.results26, go_sem, noDay]) rfl ?_; exact ⟨DayPost.no, by (repeat (first | with_reducible exact grew_refl _ | with_reducible assumption | with_reducible refine grew_split ?_ | with_reducible refine grew_mk ?_ | with_reducible refine grew_plus ?_ | with_reducible refine grew_alloc ?_ | with_reducible refine grew_drew ?_ | (with_reducible refine grew_set ?_ (by first | exact Nat.le_refl _ | omega | (simp [go_sem]; done) | (simp [go_sem]; omega)))))⟩)
        · have HF := hid (stepF_good HC.out hcd)
          have hcall := fun W hv => i_IsSurveyDay ⟨⟨minute, 1, setDone lines j, 0, 0, cast, fuel⟩, some ⟨g1, 0, none⟩, d1⟩ _ hcd W hv
          simp only [DayV.val, setDone_len] at hcall
          have HCALL := hid hcall
          clear hcd hcall
          refine (HCALL.out _ ⟨(KEY.out ((((w.alloc (.cells #[.int .i64 minute, .int .i64 2, .slice (some ⟨b, off, none⟩) lines.length c, .int .i64 ((j : Int) + 1), .int .i64 since, .int .i64 cast, .int .i64 fuel] 26)).alloc (.cells #[.int .i64 5, .int .i64 0] 37)).alloc (.cells #[.int .i64 0, .int .i64 0, .slice none 0 0, .int .i64 0, .int .i64 0, .int .i64 0, .int .i64 0] 26))) (by simp)).sl.grew (by (repeat (first | with_reducible exact grew_refl _ | with_reducible assumption | with_reducible refine grew_split ?_ | with_reducible refine grew_mk ?_ | with_reducible refine grew_plus ?_ | with_reducible refine grew_alloc ?_ | with_reducible refine grew_drew ?_ | (with_reducible refine grew_set ?_ (by first | exact Nat.le_refl _ | omega | (simp [go_sem]; done) | (simp [go_sem]; omega)))))), by simp only [setDone_len]; exact Nat.le_trans b6 (by decide)⟩).mono ?_
          (rintro e w' ⟨rfl, gx, rfl⟩)
          go_wp2_with fail
          obtain rfl := HP.out.symm.trans HF.out
          refine bodyPost_ret (v := .tuple #[DayV.val ⟨⟨minute, 1, setDone lines j, 0, 0, cast, fuel⟩, some ⟨g1, 0, none⟩, d1⟩, .bool true]) (by simp [results, Tryd.results26, go_sem, setDone_len]) rfl ?_
          exact ⟨⟨_, _, rfl, (OwnF.grew (OwnF.set7 (KEY.out ((((w.alloc (.cells #[.int .i64 minute, .int .i64 2, .slice (some ⟨b, off, none⟩) lines.length c, .int .i64 ((j : Int) + 1), .int .i64 since, .int .i64 cast, .int .i64 fuel] 26)).alloc (.cells #[.int .i64 5, .int .i64 0] 37)).alloc (.cells #[.int .i64 0, .int .i64 0, .slice none 0 0, .int .i64 0, .int .i64 0, .int .i64 0, .int .i64 0] 26))) (by simp)) (by omega)) (grew_plus (grew_alloc (grew_refl _)))).less (by omega)⟩, by (repeat (first | with_reducible exact grew_refl _ | with_reducible assumption | with_reducible refine grew_split ?_ | with_reducible refine grew_mk ?_ | with_reducible refine grew_plus ?_ | with_reducible refine grew_alloc ?_ | with_reducible refine grew_drew ?_ | (with_reducible refine grew_set ?_ (by first | exact Nat.le_refl _ | omega | (simp [go_sem]; done) | (simp [go_sem]; omega)))))⟩
      · have HF := hid (stepF_none (v := ⟨minute, 2, lines, (j : Int) + 1, since, cast, fuel⟩) (k := 5) (x := 0) (by simp only [candF, minsAt]; grind))
        (go_wp2_with fail; all_goals (first | ((refine wp_region_calm (by kernel_rfl) (by kernel_rfl) ?_; (repeat' (first | go_big_quiet_step (fail) | (refine wpQuiet_step (fun K hK => ?_); go_simp; go_ite <;> go_simp <;> (first | (refine hK _ ?_; clear hK K) | (apply Exists.intro; refine ⟨fun _ => ?_, hK _ ?_⟩; (fail); clear hK K))))); all_goals (refine wpQuiet_nil ?_; intro _ hw'; obtain ⟨gq, hw''⟩ := hw'; subst hw'')); go_wp2_with fail) | skip))
        all_goals first | (obtain rfl := HP.out.symm.trans HF.out; refine bodyPost_ret (v := .tuple #[DayV.val ⟨noDay, none, 0⟩, .bool false]) (by simp [results, Tryd.results26, go_sem, noDay]) rfl ?_; exact ⟨DayPost.no, by (repeat (first | with_reducible exact grew_refl _ | with_reducible assumption | with_reducible refine grew_split ?_ | with_reducible refine grew_mk ?_ | with_reducible refine grew_plus ?_ | with_reducible refine grew_alloc ?_ | with_reducible refine grew_drew ?_ | (with_reducible refine grew_set ?_ (by first | exact Nat.le_refl _ | omega | (simp [go_sem]; done) | (simp [go_sem]; omega)))))⟩) | (exfalso; (try simp only [bne_eq_false_iff_eq, beq_eq_false_iff_ne] at *); omega)
    have HF := hid (stepF_none (v := ⟨minute, 2, lines, (j : Int) + 1, since, cast, fuel⟩) (k := 5) (x := x) (by simp only [candF]; grind))
    go_wp2_with fail
    all_goals first | (obtain rfl := HP.out.symm.trans HF.out; refine bodyPost_ret (v := .tuple #[DayV.val ⟨noDay, none, 0⟩, .bool false]) (by simp [results, Tryd.results26, go_sem, noDay]) rfl ?_; exact ⟨DayPost.no, by (repeat (first | with_reducible exact grew_refl _ | with_reducible assumption | with_reducible refine grew_split ?_ | with_reducible refine grew_mk ?_ | with_reducible refine grew_plus ?_ | with_reducible refine grew_alloc ?_ | with_reducible refine grew_drew ?_ | (with_reducible refine grew_set ?_ (by first | exact Nat.le_refl _ | omega | (simp [go_sem]; done) | (simp [go_sem]; omega)))))⟩) | (exfalso; (try simp only [bne_eq_false_iff_eq, beq_eq_false_iff_ne] at *); omega)
  have k5' : (k == 5) = false := by simp [k5]
  have HF := hid (stepF_none (v := ⟨minute, 2, lines, (j : Int) + 1, since, cast, fuel⟩) (k := k) (x := x) (by simp only [candF]; grind))
  (go_wp2_with fail; all_goals (first | ((refine wp_region_calm (by kernel_rfl) (by kernel_rfl) ?_; (repeat' (first | go_big_quiet_step (fail) | (refine wpQuiet_step (fun K hK => ?_); go_simp; go_ite <;> go_simp <;> (first | (refine hK _ ?_; clear hK K) | (apply Exists.intro; refine ⟨fun _ => ?_, hK _ ?_⟩; (fail); clear hK K))))); all_goals (refine wpQuiet_nil ?_; intro _ hw'; obtain ⟨gq, hw''⟩ := hw'; subst hw'')); go_wp2_with fail) | skip))
  all_goals first | (obtain rfl := HP.out.symm.trans HF.out; refine bodyPost_ret (v := .tuple #[DayV.val ⟨noDay, none, 0⟩, .bool false]) (by simp [results, Tryd.results26, go_sem, noDay]) rfl ?_; exact ⟨DayPost.no, by (repeat (first | with_reducible exact grew_refl _ | with_reducible assumption | with_reducible refine grew_split ?_ | with_reducible refine grew_mk ?_ | with_reducible refine grew_plus ?_ | with_reducible refine grew_alloc ?_ | with_reducible refine grew_drew ?_ | (with_reducible refine grew_set ?_ (by first | exact Nat.le_refl _ | omega | (simp [go_sem]; done) | (simp [go_sem]; omega)))))⟩) | (exfalso; (try simp only [bne_eq_false_iff_eq, beq_eq_false_iff_ne] at *); omega)

theorem i_stepDay (v : DayV) (k x : Int) (p : DayC × Bool) (hp : stepF v.core k x = p) (w : World) (hok : v.core.ok = true) (hv : v.At w) :
    Calls Tryd.prog 26 #[v.val, .agg #[.int .i64 k, .int .i64 x]] w fun e w' => DayPost w.heap.size p e w' ∧ ∃ g, w' = plus w g := by
  obtain ⟨⟨minute, state, lines, line, since, cast, fuel⟩, A, c⟩ := v
  obtain ⟨_, _, b3, b4, _⟩ := DayC.bounds hok
  simp only at b3 b4
  obtain rfl | rfl | rfl : state = 0 ∨ state = 1 ∨ state = 2 := by omega
  · exact i_stepDay0 minute lines line since cast fuel A c k x p hp w hok hv
  · exact i_stepDay1 minute lines line since cast fuel A c k x p hp w hok hv
  · exact i_stepDay2 minute lines line since cast fuel A c k x p hp w hok hv
end Go.Proofs.YtcljcbbkbepmjaaDoor
