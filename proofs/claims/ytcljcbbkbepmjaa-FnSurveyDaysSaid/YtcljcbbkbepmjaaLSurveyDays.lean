/- The law FnSurveyDays: no line is begun with a cast that is too old, and running steps is making the possible ones one after the other. No condition. -/
import Derived.Test.YtcljcbbkbepmjaaRows
import Derived.Test.YtcljcbbkbepmjaaFa
import Derived.Test.YtcljcbbkbepmjaaVd
import Derived.Test.YtcljcbbkbepmjaaE9
import Derived.Test.YtcljcbbkbepmjaaE10
import Derived.Test.YtcljcbbkbepmjaaD4
import Derived.Test.YtcljcbbkbepmjaaD17
import Derived.Test.YtcljcbbkbepmjaaD19
import Derived.Test.YtcljcbbkbepmjaaOpenCode
import Derived.Test.YtcljcbbkbepmjaaAl
import Derived.Deep.RegionHeld3
import Derived.Deep.DrawnRows
import Derived.Deep.CutBlock
import Derived.Deep.DeepCutAuto
namespace Go.Proofs.Ytcljcbbkbepmjaa
open Go.ChangeShapes Go.WideShapes Go.ChangeAt Go.RowKit Go.Deep Go.Joins
open Go.ChangeMaps (open_string shut_string)

attribute [local go_sem ↓] Go.wp_at_zero Go.wp_at_succ
/-- The lines can be read, and do not lie in block b. -/
def SlN (w : World) (A : Option Addr) (l : List LineR) (b : Nat) : Prop := Sl w 2 LineR.row A l ∧ (l = [] ∨ ∀ a, A = some a → a.block ≠ b)
theorem SlN.grew {w w' : World} {A : Option Addr} {l : List LineR} {b : Nat} (h : SlN w A l b) (hg : ∃ g, w' = plus w g) : SlN w' A l b := ⟨h.1.grew hg, h.2⟩
theorem SlN.set {w w' : World} {A : Option Addr} {l : List LineR} {b : Nat} (h : SlN w A l b) (hg : w.grownBy w' (some b)) : SlN w' A l b := by
  refine ⟨?_, h.2⟩
  rcases h.2 with h2 | h2
  · exact .inl h2
  · exact sl_kept h.1 hg h2
theorem SlN.old {w : World} {A : Option Addr} {l : List LineR} {b : Nat} (h : Sl w 2 LineR.row A l) (hb : w.heap.size ≤ b) : SlN w A l b := by
  refine ⟨h, ?_⟩
  rcases h with h | ⟨k, off, hA, hlt, _⟩
  · exact .inl h
  · refine .inr fun a ha => ?_
    rw [hA] at ha
    injection ha with ha
    subst ha
    simp only
    omega
theorem SlN.new {w : World} {A : Option Addr} {l : List LineR} {b B : Nat} {e : TypeId} (h : OwnF B e 2 LineR.row w A l) (hb : b < B) : SlN w A l b := by
  refine ⟨h.sl, ?_⟩
  rcases h with h | ⟨k, cs, hA, hB, _⟩
  · exact .inl h
  · refine .inr fun a ha => ?_
    rw [hA] at ha
    injection ha with ha
    subst ha
    simp only
    omega
theorem runF_true {v E : DayC} {l : List StepR} {n : Int} (h : runF v l = (E, n, true)) : v.ok = true ∧ runTo v l l.length = (E, n) := by
  unfold runF at h
  split at h
  · rename_i hc
    injection h with h1 h2
    injection h2 with h2 h3
    exact ⟨hc.1, by rw [← h1, ← h2]⟩
  · injection h with h1 h2
    injection h2 with h2 h3
    cases h3
theorem runF_len (v : DayC) (l : List StepR) : (runF v l).1.lines.length ≤ 8 := by
  unfold runF
  split
  · rename_i h
    exact (DayC.bounds (runTo_ok h.1 l l.length (Nat.le_refl _)).1).2.2.2.2.2.1
  · simp [noDay]
set_option maxHeartbeats 8000000 in
set_option maxRecDepth 100000 in
theorem l_FnSurveyDays (A : Option Addr) (c : Nat) (bs : List Int) (w : World) (hA : Sl w 1 byteRow A bs) (hb : ∀ x ∈ bs, 0 ≤ x ∧ x ≤ 255) (_hl : bs.length ≤ maxLen) :
    Calls Try.prog 3 #[.slice A bs.length c] w fun e' w' => e' = .returned (.bool true) ∧ ∃ g, w' = plus w g := by
  have HA := hid hA
  have HB := hid hb
  clear hA hb
  by_cases hbig : (65536 : Int) < (bs.length : Int)
  · go_enter Try.func3, Try.ntmps3
    go_wp2_with (go_at_call 4; refine (l_vBig _ _ _ _).mono ?_; (rintro e w' ⟨rfl, rfl⟩))
    go_ret
    exact ⟨rfl, by (repeat (first | with_reducible exact grew_refl _ | with_reducible assumption | with_reducible refine grew_split ?_ | with_reducible refine grew_mk ?_ | with_reducible refine grew_plus ?_ | with_reducible refine grew_alloc ?_ | with_reducible refine grew_drew ?_ | (with_reducible refine grew_set ?_ (by first | exact Nat.le_refl _ | omega | (simp [go_sem]; done) | (simp [go_sem]; omega)))))⟩
  have HC := hid (show Code0 w A bs from ⟨HA.out, HB.out, by omega⟩)
  clear HA HB
  go_enter Try.func3, Try.ntmps3
  go_wp2_with (go_at_call 4; refine (l_vBig _ _ _ _).mono ?_; (rintro e w' ⟨rfl, rfl⟩))
  refine (s_DrawStepDay A c bs _ HC.out).mono ?_
  rintro e W1 ⟨⟨v, k, x, rfl, hl8, hS, x0, x1⟩, hg⟩
  have HG := hid hg
  have HS := hid hS
  clear hS hg
  obtain ⟨o, q, hst⟩ : ∃ o q, stepAll v.core k x = (o, q) := ⟨_, _, rfl⟩
  have ho8 := stepAll_len v.core k x
  rw [hst] at ho8
  simp only at ho8
  have HST := hid hst
  clear hst
  go_wp2_with fail
  refine (i_StepDay v k x _ ⟨HS.out.grew (by (repeat (first | with_reducible exact grew_refl _ | with_reducible assumption | with_reducible refine grew_split ?_ | with_reducible refine grew_mk ?_ | with_reducible refine grew_plus ?_ | with_reducible refine grew_alloc ?_ | with_reducible refine grew_drew ?_ | (with_reducible refine grew_set ?_ (by first | exact Nat.le_refl _ | omega | (simp [go_sem]; done) | (simp [go_sem]; omega)))))), (by unfold maxLen; omega)⟩).mono ?_
  rw [HST.out]
  rintro e w' ⟨⟨A1, c1, rfl, hO1⟩, g1, rfl⟩
  (try rw [plus_plus] at hO1)
  have O1 := hid hO1.sl
  clear hO1
  go_wp2_with fail
  refine (s_StepDay v k x _ ⟨HS.out.grew (by (repeat (first | with_reducible exact grew_refl _ | with_reducible assumption | with_reducible refine grew_split ?_ | with_reducible refine grew_mk ?_ | with_reducible refine grew_plus ?_ | with_reducible refine grew_alloc ?_ | with_reducible refine grew_drew ?_ | (with_reducible refine grew_set ?_ (by first | exact Nat.le_refl _ | omega | (simp [go_sem]; done) | (simp [go_sem]; omega)))))), (by unfold maxLen; omega)⟩).mono ?_
  rw [HST.out]
  rintro e w' ⟨⟨A2, c2, rfl, hO2⟩, g2, rfl⟩
  (try rw [plus_plus] at hO2)
  have O2 := hid hO2.sl
  clear hO2
  go_upto_region 6 with fail
  generalize hb5 : W1.heap.size + 1 + 1 + g1.objs.size = b5
  generalize hb7 : b5 + 1 + g2.objs.size = b7
  refine opq_wp (fun W2 => Blk W2 W1.heap.size 26 #[.int .i64 (v.core).minute, .int .i64 (v.core).state, .slice v.A (v.core).lines.length v.c, .int .i64 (v.core).line, .int .i64 (v.core).since, .int .i64 (v.core).cast, .int .i64 (v.core).fuel] ∧ Blk W2 (W1.heap.size + 1) 28 #[.int .i64 k, .int .i64 x] ∧ Blk W2 b5 26 #[.int .i64 (o).minute, .int .i64 (o).state, .slice A1 (o).lines.length c1, .int .i64 (o).line, .int .i64 (o).since, .int .i64 (o).cast, .int .i64 (o).fuel] ∧ Blk W2 b7 26 #[.int .i64 (o).minute, .int .i64 (o).state, .slice A2 (o).lines.length c2, .int .i64 (o).line, .int .i64 (o).since, .int .i64 (o).cast, .int .i64 (o).fuel] ∧ Sl W2 2 LineR.row v.A v.core.lines ∧ Sl W2 2 LineR.row A1 o.lines ∧ Sl W2 2 LineR.row A2 o.lines ∧ ∃ g, W2 = plus w g) ⟨blk_grew (blk_new rfl) (by (repeat (first | with_reducible exact grew_refl _ | with_reducible assumption | with_reducible refine grew_split ?_ | with_reducible refine grew_mk ?_ | with_reducible refine grew_plus ?_ | with_reducible refine grew_alloc ?_ | with_reducible refine grew_drew ?_ | (with_reducible refine grew_set ?_ (by first | exact Nat.le_refl _ | omega | (simp [go_sem]; done) | (simp [go_sem]; omega)))))), blk_grew (blk_new (w := W1.alloc _) (by simp)) (by (repeat (first | with_reducible exact grew_refl _ | with_reducible assumption | with_reducible refine grew_split ?_ | with_reducible refine grew_mk ?_ | with_reducible refine grew_plus ?_ | with_reducible refine grew_alloc ?_ | with_reducible refine grew_drew ?_ | (with_reducible refine grew_set ?_ (by first | exact Nat.le_refl _ | omega | (simp [go_sem]; done) | (simp [go_sem]; omega)))))), blk_grew (blk_new (w := plus ((W1.alloc _).alloc _) g1) (by subst hb5; simp [go_sem])) (by (repeat (first | with_reducible exact grew_refl _ | with_reducible assumption | with_reducible refine grew_split ?_ | with_reducible refine grew_mk ?_ | with_reducible refine grew_plus ?_ | with_reducible refine grew_alloc ?_ | with_reducible refine grew_drew ?_ | (with_reducible refine grew_set ?_ (by first | exact Nat.le_refl _ | omega | (simp [go_sem]; done) | (simp [go_sem]; omega)))))), blk_new (by subst hb7 hb5; simp [go_sem]), HS.out.grew (by (repeat (first | with_reducible exact grew_refl _ | with_reducible assumption | with_reducible refine grew_split ?_ | with_reducible refine grew_mk ?_ | with_reducible refine grew_plus ?_ | with_reducible refine grew_alloc ?_ | with_reducible refine grew_drew ?_ | (with_reducible refine grew_set ?_ (by first | exact Nat.le_refl _ | omega | (simp [go_sem]; done) | (simp [go_sem]; omega)))))), O1.out.grew (by (repeat (first | with_reducible exact grew_refl _ | with_reducible assumption | with_reducible refine grew_split ?_ | with_reducible refine grew_mk ?_ | with_reducible refine grew_plus ?_ | with_reducible refine grew_alloc ?_ | with_reducible refine grew_drew ?_ | (with_reducible refine grew_set ?_ (by first | exact Nat.le_refl _ | omega | (simp [go_sem]; done) | (simp [go_sem]; omega)))))), O2.out.grew (by (repeat (first | with_reducible exact grew_refl _ | with_reducible assumption | with_reducible refine grew_split ?_ | with_reducible refine grew_mk ?_ | with_reducible refine grew_plus ?_ | with_reducible refine grew_alloc ?_ | with_reducible refine grew_drew ?_ | (with_reducible refine grew_set ?_ (by first | exact Nat.le_refl _ | omega | (simp [go_sem]; done) | (simp [go_sem]; omega)))))), by have hg := HG.out; (repeat (first | with_reducible exact grew_refl _ | with_reducible assumption | with_reducible refine grew_split ?_ | with_reducible refine grew_mk ?_ | with_reducible refine grew_plus ?_ | with_reducible refine grew_alloc ?_ | with_reducible refine grew_drew ?_ | (with_reducible refine grew_set ?_ (by first | exact Nat.le_refl _ | omega | (simp [go_sem]; done) | (simp [go_sem]; omega)))))⟩ ?_
  clear hb5 hb7 HS O1 O2 HG
  rintro W2 ⟨hBd, hBs, hBo, hBw, hS, hS1, hS2, hg2⟩
  have HBd := hid hBd
  have HBs := hid hBs
  have HBo := hid hBo
  have HV := hid (DayV.At.mk (v := v) hS (by unfold maxLen; omega))
  have HO1 := hid (DayV.At.mk (v := ⟨o, A1, c1⟩) hS1 (by unfold maxLen; simp only; omega))
  have HO2 := hid (DayV.At.mk (v := ⟨o, A2, c2⟩) hS2 (by unfold maxLen; simp only; omega))
  have HG2 := hid hg2
  have hld := hBd.lt
  have hls := hBs.lt
  have hlo := hBo.lt
  have hlw := hBw.lt
  (have hd0 := hBd.cell 0; have hd1 := hBd.cell 1; have hd2 := hBd.cell 2; have hd3 := hBd.cell 3; have hd4 := hBd.cell 4; have hd5 := hBd.cell 5; have hd6 := hBd.cell 6; simp [go_sem] at hd0 hd1 hd2 hd3 hd4 hd5 hd6)
  (have ho0 := hBo.cell 0; have ho1 := hBo.cell 1; have ho2 := hBo.cell 2; have ho3 := hBo.cell 3; have ho4 := hBo.cell 4; have ho5 := hBo.cell 5; have ho6 := hBo.cell 6; simp [go_sem] at ho0 ho1 ho2 ho3 ho4 ho5 ho6)
  (have hw0 := hBw.cell 0; have hw1 := hBw.cell 1; have hw2 := hBw.cell 2; have hw3 := hBw.cell 3; have hw4 := hBw.cell 4; have hw5 := hBw.cell 5; have hw6 := hBw.cell 6; simp [go_sem] at hw0 hw1 hw2 hw3 hw4 hw5 hw6)
  have hs0 := hBs.cell 0
  have hs1 := hBs.cell 1
  simp [go_sem] at hs0 hs1
  clear hBd hBs hBo hBw hS hS1 hS2 hg2
  go_cut [76] (fun t wx => t = .bool false ∧ ∃ g, wx = plus W2 g)
  case first =>
    as_aux_lemma =>
      obtain ⟨o1, ho1⟩ : ∃ b, v.core.ok = b := ⟨_, rfl⟩
      have HK1 := hid ho1
      have e1 : (q != q) = false := by simp
      have e2 : (o1 != o1) = false := by simp
      clear ho1
      cases q
      · (refine wp_region_calm (by kernel_rfl) (by kernel_rfl) ?_; (repeat' (first | go_big_quiet_step ((first | (go_at_call 8; first | with_reducible exact calm_of (l_vDay o A1 A2 c1 c2 _ (HO1.out.grew (by (repeat (first | with_reducible exact grew_refl _ | with_reducible assumption | with_reducible refine grew_split ?_ | with_reducible refine grew_mk ?_ | with_reducible refine grew_plus ?_ | with_reducible refine grew_alloc ?_ | with_reducible refine grew_drew ?_ | (with_reducible refine grew_set ?_ (by first | exact Nat.le_refl _ | omega | (simp [go_sem]; done) | (simp [go_sem]; omega))))))) (HO2.out.grew (by (repeat (first | with_reducible exact grew_refl _ | with_reducible assumption | with_reducible refine grew_split ?_ | with_reducible refine grew_mk ?_ | with_reducible refine grew_plus ?_ | with_reducible refine grew_alloc ?_ | with_reducible refine grew_drew ?_ | (with_reducible refine grew_set ?_ (by first | exact Nat.le_refl _ | omega | (simp [go_sem]; done) | (simp [go_sem]; omega)))))))) | with_reducible exact calm_add (l_vDay o A1 A2 c1 c2 _ (HO1.out.grew (by (repeat (first | with_reducible exact grew_refl _ | with_reducible assumption | with_reducible refine grew_split ?_ | with_reducible refine grew_mk ?_ | with_reducible refine grew_plus ?_ | with_reducible refine grew_alloc ?_ | with_reducible refine grew_drew ?_ | (with_reducible refine grew_set ?_ (by first | exact Nat.le_refl _ | omega | (simp [go_sem]; done) | (simp [go_sem]; omega))))))) (HO2.out.grew (by (repeat (first | with_reducible exact grew_refl _ | with_reducible assumption | with_reducible refine grew_split ?_ | with_reducible refine grew_mk ?_ | with_reducible refine grew_plus ?_ | with_reducible refine grew_alloc ?_ | with_reducible refine grew_drew ?_ | (with_reducible refine grew_set ?_ (by first | exact Nat.le_refl _ | omega | (simp [go_sem]; done) | (simp [go_sem]; omega))))))))) | (go_at_call 9; first | with_reducible exact calm_of (i_IsSurveyDay v _ HK1.out _ (HV.out.grew (by (repeat (first | with_reducible exact grew_refl _ | with_reducible assumption | with_reducible refine grew_split ?_ | with_reducible refine grew_mk ?_ | with_reducible refine grew_plus ?_ | with_reducible refine grew_alloc ?_ | with_reducible refine grew_drew ?_ | (with_reducible refine grew_set ?_ (by first | exact Nat.le_refl _ | omega | (simp [go_sem]; done) | (simp [go_sem]; omega)))))))) | with_reducible exact calm_add (i_IsSurveyDay v _ HK1.out _ (HV.out.grew (by (repeat (first | with_reducible exact grew_refl _ | with_reducible assumption | with_reducible refine grew_split ?_ | with_reducible refine grew_mk ?_ | with_reducible refine grew_plus ?_ | with_reducible refine grew_alloc ?_ | with_reducible refine grew_drew ?_ | (with_reducible refine grew_set ?_ (by first | exact Nat.le_refl _ | omega | (simp [go_sem]; done) | (simp [go_sem]; omega))))))))) | (go_at_call 10; first | with_reducible exact calm_of (s_IsSurveyDay v _ HK1.out _ (HV.out.grew (by (repeat (first | with_reducible exact grew_refl _ | with_reducible assumption | with_reducible refine grew_split ?_ | with_reducible refine grew_mk ?_ | with_reducible refine grew_plus ?_ | with_reducible refine grew_alloc ?_ | with_reducible refine grew_drew ?_ | (with_reducible refine grew_set ?_ (by first | exact Nat.le_refl _ | omega | (simp [go_sem]; done) | (simp [go_sem]; omega)))))))) | with_reducible exact calm_add (s_IsSurveyDay v _ HK1.out _ (HV.out.grew (by (repeat (first | with_reducible exact grew_refl _ | with_reducible assumption | with_reducible refine grew_split ?_ | with_reducible refine grew_mk ?_ | with_reducible refine grew_plus ?_ | with_reducible refine grew_alloc ?_ | with_reducible refine grew_drew ?_ | (with_reducible refine grew_set ?_ (by first | exact Nat.le_refl _ | omega | (simp [go_sem]; done) | (simp [go_sem]; omega))))))))))) | (refine wpQuiet_step (fun K hK => ?_); go_simp; go_ite <;> go_simp <;> (first | (refine hK _ ?_; clear hK K) | (apply Exists.intro; refine ⟨fun _ => ?_, hK _ ?_⟩; ((first | (go_at_call 8; first | with_reducible exact calm_of (l_vDay o A1 A2 c1 c2 _ (HO1.out.grew (by (repeat (first | with_reducible exact grew_refl _ | with_reducible assumption | with_reducible refine grew_split ?_ | with_reducible refine grew_mk ?_ | with_reducible refine grew_plus ?_ | with_reducible refine grew_alloc ?_ | with_reducible refine grew_drew ?_ | (with_reducible refine grew_set ?_ (by first | exact Nat.le_refl _ | omega | (simp [go_sem]; done) | (simp [go_sem]; omega))))))) (HO2.out.grew (by (repeat (first | with_reducible exact grew_refl _ | with_reducible assumption | with_reducible refine grew_split ?_ | with_reducible refine grew_mk ?_ | with_reducible refine grew_plus ?_ | with_reducible refine grew_alloc ?_ | with_reducible refine grew_drew ?_ | (with_reducible refine grew_set ?_ (by first | exact Nat.le_refl _ | omega | (simp [go_sem]; done) | (simp [go_sem]; omega)))))))) | with_reducible exact calm_add (l_vDay o A1 A2 c1 c2 _ (HO1.out.grew (by (repeat (first | with_reducible exact grew_refl _ | with_reducible assumption | with_reducible refine grew_split ?_ | with_reducible refine grew_mk ?_ | with_reducible refine grew_plus ?_ | with_reducible refine grew_alloc ?_ | with_reducible refine grew_drew ?_ | (with_reducible refine grew_set ?_ (by first | exact Nat.le_refl _ | omega | (simp [go_sem]; done) | (simp [go_sem]; omega))))))) (HO2.out.grew (by (repeat (first | with_reducible exact grew_refl _ | with_reducible assumption | with_reducible refine grew_split ?_ | with_reducible refine grew_mk ?_ | with_reducible refine grew_plus ?_ | with_reducible refine grew_alloc ?_ | with_reducible refine grew_drew ?_ | (with_reducible refine grew_set ?_ (by first | exact Nat.le_refl _ | omega | (simp [go_sem]; done) | (simp [go_sem]; omega))))))))) | (go_at_call 9; first | with_reducible exact calm_of (i_IsSurveyDay v _ HK1.out _ (HV.out.grew (by (repeat (first | with_reducible exact grew_refl _ | with_reducible assumption | with_reducible refine grew_split ?_ | with_reducible refine grew_mk ?_ | with_reducible refine grew_plus ?_ | with_reducible refine grew_alloc ?_ | with_reducible refine grew_drew ?_ | (with_reducible refine grew_set ?_ (by first | exact Nat.le_refl _ | omega | (simp [go_sem]; done) | (simp [go_sem]; omega)))))))) | with_reducible exact calm_add (i_IsSurveyDay v _ HK1.out _ (HV.out.grew (by (repeat (first | with_reducible exact grew_refl _ | with_reducible assumption | with_reducible refine grew_split ?_ | with_reducible refine grew_mk ?_ | with_reducible refine grew_plus ?_ | with_reducible refine grew_alloc ?_ | with_reducible refine grew_drew ?_ | (with_reducible refine grew_set ?_ (by first | exact Nat.le_refl _ | omega | (simp [go_sem]; done) | (simp [go_sem]; omega))))))))) | (go_at_call 10; first | with_reducible exact calm_of (s_IsSurveyDay v _ HK1.out _ (HV.out.grew (by (repeat (first | with_reducible exact grew_refl _ | with_reducible assumption | with_reducible refine grew_split ?_ | with_reducible refine grew_mk ?_ | with_reducible refine grew_plus ?_ | with_reducible refine grew_alloc ?_ | with_reducible refine grew_drew ?_ | (with_reducible refine grew_set ?_ (by first | exact Nat.le_refl _ | omega | (simp [go_sem]; done) | (simp [go_sem]; omega)))))))) | with_reducible exact calm_add (s_IsSurveyDay v _ HK1.out _ (HV.out.grew (by (repeat (first | with_reducible exact grew_refl _ | with_reducible assumption | with_reducible refine grew_split ?_ | with_reducible refine grew_mk ?_ | with_reducible refine grew_plus ?_ | with_reducible refine grew_alloc ?_ | with_reducible refine grew_drew ?_ | (with_reducible refine grew_set ?_ (by first | exact Nat.le_refl _ | omega | (simp [go_sem]; done) | (simp [go_sem]; omega))))))))))); clear hK K))))); all_goals (refine wpQuiet_nil ?_; intro _ hw'; obtain ⟨gq, hw''⟩ := hw'; subst hw''))
        go_wp2_with fail
        go_meet
        exact ⟨rfl, _, rfl⟩
      · have HK2 := hid (step_law HST.out).2.1
        (refine wp_region_calm (by kernel_rfl) (by kernel_rfl) ?_; (repeat' (first | go_big_quiet_step ((first | (go_at_call 8; first | with_reducible exact calm_of (l_vDay o A1 A2 c1 c2 _ (HO1.out.grew (by (repeat (first | with_reducible exact grew_refl _ | with_reducible assumption | with_reducible refine grew_split ?_ | with_reducible refine grew_mk ?_ | with_reducible refine grew_plus ?_ | with_reducible refine grew_alloc ?_ | with_reducible refine grew_drew ?_ | (with_reducible refine grew_set ?_ (by first | exact Nat.le_refl _ | omega | (simp [go_sem]; done) | (simp [go_sem]; omega))))))) (HO2.out.grew (by (repeat (first | with_reducible exact grew_refl _ | with_reducible assumption | with_reducible refine grew_split ?_ | with_reducible refine grew_mk ?_ | with_reducible refine grew_plus ?_ | with_reducible refine grew_alloc ?_ | with_reducible refine grew_drew ?_ | (with_reducible refine grew_set ?_ (by first | exact Nat.le_refl _ | omega | (simp [go_sem]; done) | (simp [go_sem]; omega)))))))) | with_reducible exact calm_add (l_vDay o A1 A2 c1 c2 _ (HO1.out.grew (by (repeat (first | with_reducible exact grew_refl _ | with_reducible assumption | with_reducible refine grew_split ?_ | with_reducible refine grew_mk ?_ | with_reducible refine grew_plus ?_ | with_reducible refine grew_alloc ?_ | with_reducible refine grew_drew ?_ | (with_reducible refine grew_set ?_ (by first | exact Nat.le_refl _ | omega | (simp [go_sem]; done) | (simp [go_sem]; omega))))))) (HO2.out.grew (by (repeat (first | with_reducible exact grew_refl _ | with_reducible assumption | with_reducible refine grew_split ?_ | with_reducible refine grew_mk ?_ | with_reducible refine grew_plus ?_ | with_reducible refine grew_alloc ?_ | with_reducible refine grew_drew ?_ | (with_reducible refine grew_set ?_ (by first | exact Nat.le_refl _ | omega | (simp [go_sem]; done) | (simp [go_sem]; omega))))))))) | (go_at_call 9; first | with_reducible exact calm_of (i_IsSurveyDay v _ HK1.out _ (HV.out.grew (by (repeat (first | with_reducible exact grew_refl _ | with_reducible assumption | with_reducible refine grew_split ?_ | with_reducible refine grew_mk ?_ | with_reducible refine grew_plus ?_ | with_reducible refine grew_alloc ?_ | with_reducible refine grew_drew ?_ | (with_reducible refine grew_set ?_ (by first | exact Nat.le_refl _ | omega | (simp [go_sem]; done) | (simp [go_sem]; omega)))))))) | with_reducible exact calm_add (i_IsSurveyDay v _ HK1.out _ (HV.out.grew (by (repeat (first | with_reducible exact grew_refl _ | with_reducible assumption | with_reducible refine grew_split ?_ | with_reducible refine grew_mk ?_ | with_reducible refine grew_plus ?_ | with_reducible refine grew_alloc ?_ | with_reducible refine grew_drew ?_ | (with_reducible refine grew_set ?_ (by first | exact Nat.le_refl _ | omega | (simp [go_sem]; done) | (simp [go_sem]; omega)))))))) | with_reducible exact calm_of (i_IsSurveyDay ⟨o, A1, c1⟩ _ HK2.out _ (HO1.out.grew (by (repeat (first | with_reducible exact grew_refl _ | with_reducible assumption | with_reducible refine grew_split ?_ | with_reducible refine grew_mk ?_ | with_reducible refine grew_plus ?_ | with_reducible refine grew_alloc ?_ | with_reducible refine grew_drew ?_ | (with_reducible refine grew_set ?_ (by first | exact Nat.le_refl _ | omega | (simp [go_sem]; done) | (simp [go_sem]; omega)))))))) | with_reducible exact calm_add (i_IsSurveyDay ⟨o, A1, c1⟩ _ HK2.out _ (HO1.out.grew (by (repeat (first | with_reducible exact grew_refl _ | with_reducible assumption | with_reducible refine grew_split ?_ | with_reducible refine grew_mk ?_ | with_reducible refine grew_plus ?_ | with_reducible refine grew_alloc ?_ | with_reducible refine grew_drew ?_ | (with_reducible refine grew_set ?_ (by first | exact Nat.le_refl _ | omega | (simp [go_sem]; done) | (simp [go_sem]; omega))))))))) | (go_at_call 10; first | with_reducible exact calm_of (s_IsSurveyDay v _ HK1.out _ (HV.out.grew (by (repeat (first | with_reducible exact grew_refl _ | with_reducible assumption | with_reducible refine grew_split ?_ | with_reducible refine grew_mk ?_ | with_reducible refine grew_plus ?_ | with_reducible refine grew_alloc ?_ | with_reducible refine grew_drew ?_ | (with_reducible refine grew_set ?_ (by first | exact Nat.le_refl _ | omega | (simp [go_sem]; done) | (simp [go_sem]; omega)))))))) | with_reducible exact calm_add (s_IsSurveyDay v _ HK1.out _ (HV.out.grew (by (repeat (first | with_reducible exact grew_refl _ | with_reducible assumption | with_reducible refine grew_split ?_ | with_reducible refine grew_mk ?_ | with_reducible refine grew_plus ?_ | with_reducible refine grew_alloc ?_ | with_reducible refine grew_drew ?_ | (with_reducible refine grew_set ?_ (by first | exact Nat.le_refl _ | omega | (simp [go_sem]; done) | (simp [go_sem]; omega))))))))))) | (refine wpQuiet_step (fun K hK => ?_); go_simp; go_ite <;> go_simp <;> (first | (refine hK _ ?_; clear hK K) | (apply Exists.intro; refine ⟨fun _ => ?_, hK _ ?_⟩; ((first | (go_at_call 8; first | with_reducible exact calm_of (l_vDay o A1 A2 c1 c2 _ (HO1.out.grew (by (repeat (first | with_reducible exact grew_refl _ | with_reducible assumption | with_reducible refine grew_split ?_ | with_reducible refine grew_mk ?_ | with_reducible refine grew_plus ?_ | with_reducible refine grew_alloc ?_ | with_reducible refine grew_drew ?_ | (with_reducible refine grew_set ?_ (by first | exact Nat.le_refl _ | omega | (simp [go_sem]; done) | (simp [go_sem]; omega))))))) (HO2.out.grew (by (repeat (first | with_reducible exact grew_refl _ | with_reducible assumption | with_reducible refine grew_split ?_ | with_reducible refine grew_mk ?_ | with_reducible refine grew_plus ?_ | with_reducible refine grew_alloc ?_ | with_reducible refine grew_drew ?_ | (with_reducible refine grew_set ?_ (by first | exact Nat.le_refl _ | omega | (simp [go_sem]; done) | (simp [go_sem]; omega)))))))) | with_reducible exact calm_add (l_vDay o A1 A2 c1 c2 _ (HO1.out.grew (by (repeat (first | with_reducible exact grew_refl _ | with_reducible assumption | with_reducible refine grew_split ?_ | with_reducible refine grew_mk ?_ | with_reducible refine grew_plus ?_ | with_reducible refine grew_alloc ?_ | with_reducible refine grew_drew ?_ | (with_reducible refine grew_set ?_ (by first | exact Nat.le_refl _ | omega | (simp [go_sem]; done) | (simp [go_sem]; omega))))))) (HO2.out.grew (by (repeat (first | with_reducible exact grew_refl _ | with_reducible assumption | with_reducible refine grew_split ?_ | with_reducible refine grew_mk ?_ | with_reducible refine grew_plus ?_ | with_reducible refine grew_alloc ?_ | with_reducible refine grew_drew ?_ | (with_reducible refine grew_set ?_ (by first | exact Nat.le_refl _ | omega | (simp [go_sem]; done) | (simp [go_sem]; omega))))))))) | (go_at_call 9; first | with_reducible exact calm_of (i_IsSurveyDay v _ HK1.out _ (HV.out.grew (by (repeat (first | with_reducible exact grew_refl _ | with_reducible assumption | with_reducible refine grew_split ?_ | with_reducible refine grew_mk ?_ | with_reducible refine grew_plus ?_ | with_reducible refine grew_alloc ?_ | with_reducible refine grew_drew ?_ | (with_reducible refine grew_set ?_ (by first | exact Nat.le_refl _ | omega | (simp [go_sem]; done) | (simp [go_sem]; omega)))))))) | with_reducible exact calm_add (i_IsSurveyDay v _ HK1.out _ (HV.out.grew (by (repeat (first | with_reducible exact grew_refl _ | with_reducible assumption | with_reducible refine grew_split ?_ | with_reducible refine grew_mk ?_ | with_reducible refine grew_plus ?_ | with_reducible refine grew_alloc ?_ | with_reducible refine grew_drew ?_ | (with_reducible refine grew_set ?_ (by first | exact Nat.le_refl _ | omega | (simp [go_sem]; done) | (simp [go_sem]; omega)))))))) | with_reducible exact calm_of (i_IsSurveyDay ⟨o, A1, c1⟩ _ HK2.out _ (HO1.out.grew (by (repeat (first | with_reducible exact grew_refl _ | with_reducible assumption | with_reducible refine grew_split ?_ | with_reducible refine grew_mk ?_ | with_reducible refine grew_plus ?_ | with_reducible refine grew_alloc ?_ | with_reducible refine grew_drew ?_ | (with_reducible refine grew_set ?_ (by first | exact Nat.le_refl _ | omega | (simp [go_sem]; done) | (simp [go_sem]; omega)))))))) | with_reducible exact calm_add (i_IsSurveyDay ⟨o, A1, c1⟩ _ HK2.out _ (HO1.out.grew (by (repeat (first | with_reducible exact grew_refl _ | with_reducible assumption | with_reducible refine grew_split ?_ | with_reducible refine grew_mk ?_ | with_reducible refine grew_plus ?_ | with_reducible refine grew_alloc ?_ | with_reducible refine grew_drew ?_ | (with_reducible refine grew_set ?_ (by first | exact Nat.le_refl _ | omega | (simp [go_sem]; done) | (simp [go_sem]; omega))))))))) | (go_at_call 10; first | with_reducible exact calm_of (s_IsSurveyDay v _ HK1.out _ (HV.out.grew (by (repeat (first | with_reducible exact grew_refl _ | with_reducible assumption | with_reducible refine grew_split ?_ | with_reducible refine grew_mk ?_ | with_reducible refine grew_plus ?_ | with_reducible refine grew_alloc ?_ | with_reducible refine grew_drew ?_ | (with_reducible refine grew_set ?_ (by first | exact Nat.le_refl _ | omega | (simp [go_sem]; done) | (simp [go_sem]; omega)))))))) | with_reducible exact calm_add (s_IsSurveyDay v _ HK1.out _ (HV.out.grew (by (repeat (first | with_reducible exact grew_refl _ | with_reducible assumption | with_reducible refine grew_split ?_ | with_reducible refine grew_mk ?_ | with_reducible refine grew_plus ?_ | with_reducible refine grew_alloc ?_ | with_reducible refine grew_drew ?_ | (with_reducible refine grew_set ?_ (by first | exact Nat.le_refl _ | omega | (simp [go_sem]; done) | (simp [go_sem]; omega))))))))))); clear hK K))))); all_goals (refine wpQuiet_nil ?_; intro _ hw'; obtain ⟨gq, hw''⟩ := hw'; subst hw''))
        go_wp2_with fail
        go_meet
        exact ⟨rfl, _, rfl⟩
  case rest =>
    obtain ⟨rfl, gr, rfl⟩ := hcut
    clear hw0 hw1 hw2 hw3 hw4 hw5 hw6 hlw
    go_upto_if 77 with fail
    go_cut [10] (fun _ wx => ∃ g, wx = plus W2 g)
    case first =>
      as_aux_lemma =>
        cases q
        · go_wp2_with fail
          go_meet
          exact ⟨_, rfl⟩
        · obtain ⟨l1, l2, l3, l4, l5, l6, l7⟩ := step_law HST.out
          obtain ⟨gd, hgd⟩ : ∃ b, castB v.core = b := ⟨_, rfl⟩
          have HCF := hid (show castF v.core = (gd, true) by simp [castF, l1, hgd])
          rw [hgd] at l5
          have z1 := todoF_len v.core
          have z2 := todoF_len o
          have hi1 := i_LinesToDo v
          have hi2 := i_LinesToDo ⟨o, A1, c1⟩
          rw [l1] at hi1
          simp only at hi2
          rw [l2] at hi2
          generalize todoF v.core = R1 at l6 l7 z1 hi1
          generalize todoF o = R2 at l6 l7 z2 hi2
          have HI1 := hid hi1
          have HI2 := hid hi2
          have HSUB := hid l6
          have HK1 := hid l1
          clear hi1 hi2 l1 l2 l6 hgd
          go_wp2_with fail
          refine (i_CastIsGood v _ (HV.out.grew (by (repeat (first | with_reducible exact grew_refl _ | with_reducible assumption | with_reducible refine grew_split ?_ | with_reducible refine grew_mk ?_ | with_reducible refine grew_plus ?_ | with_reducible refine grew_alloc ?_ | with_reducible refine grew_drew ?_ | (with_reducible refine grew_set ?_ (by first | exact Nat.le_refl _ | omega | (simp [go_sem]; done) | (simp [go_sem]; omega)))))))).mono ?_
          rw [HCF.out]
          (rintro e w' ⟨rfl, gx, rfl⟩)
          go_wp2_with fail
          refine (HI1.out _ (HV.out.grew (by (repeat (first | with_reducible exact grew_refl _ | with_reducible assumption | with_reducible refine grew_split ?_ | with_reducible refine grew_mk ?_ | with_reducible refine grew_plus ?_ | with_reducible refine grew_alloc ?_ | with_reducible refine grew_drew ?_ | (with_reducible refine grew_set ?_ (by first | exact Nat.le_refl _ | omega | (simp [go_sem]; done) | (simp [go_sem]; omega)))))))).mono ?_
          rintro e w' ⟨⟨A3, c3, rfl, hO3⟩, g3, rfl⟩
          (try rw [plus_plus] at hO3)
          have O3 := hid (hO3.sl intRow_len)
          clear hO3
          go_wp2_with fail
          refine (HI2.out _ (HO1.out.grew (by (repeat (first | with_reducible exact grew_refl _ | with_reducible assumption | with_reducible refine grew_split ?_ | with_reducible refine grew_mk ?_ | with_reducible refine grew_plus ?_ | with_reducible refine grew_alloc ?_ | with_reducible refine grew_drew ?_ | (with_reducible refine grew_set ?_ (by first | exact Nat.le_refl _ | omega | (simp [go_sem]; done) | (simp [go_sem]; omega)))))))).mono ?_
          rintro e w' ⟨⟨A4, c4, rfl, hO4⟩, g4, rfl⟩
          (try rw [plus_plus] at hO4)
          have O4 := hid (hO4.sl intRow_len)
          clear hO4
          have hcase : (k = 4 ∧ gd = true) ∨ (k = 5 ∧ R2.length + 1 = R1.length) ∨ (k ≠ 4 ∧ k ≠ 5) := by
            by_cases h4 : k = 4
            · exact .inl ⟨h4, l5 h4⟩
            · by_cases h5 : k = 5
              · exact .inr (.inl ⟨h5, l7 h5⟩)
              · exact .inr (.inr ⟨h4, h5⟩)
          clear l5 l7
          rcases hcase with ⟨rfl, rfl⟩ | ⟨rfl, h5⟩ | ⟨h4, h5⟩
          · go_wp2_with (go_at_call 13; refine (l_vWithin R2 R1 HSUB.out _ _ _ _ _ (O4.out.grew (by (repeat (first | with_reducible exact grew_refl _ | with_reducible assumption | with_reducible refine grew_split ?_ | with_reducible refine grew_mk ?_ | with_reducible refine grew_plus ?_ | with_reducible refine grew_alloc ?_ | with_reducible refine grew_drew ?_ | (with_reducible refine grew_set ?_ (by first | exact Nat.le_refl _ | omega | (simp [go_sem]; done) | (simp [go_sem]; omega))))))) (O3.out.grew (by (repeat (first | with_reducible exact grew_refl _ | with_reducible assumption | with_reducible refine grew_split ?_ | with_reducible refine grew_mk ?_ | with_reducible refine grew_plus ?_ | with_reducible refine grew_alloc ?_ | with_reducible refine grew_drew ?_ | (with_reducible refine grew_set ?_ (by first | exact Nat.le_refl _ | omega | (simp [go_sem]; done) | (simp [go_sem]; omega))))))) (by omega) (by omega)).mono ?_; (rintro e w' ⟨rfl, gx, rfl⟩))
            go_meet
            exact ⟨_, rfl⟩
          · have h5' : ((R2.length : Int) != (R1.length : Int) - 1) = false := by simp; omega
            go_wp2_with (go_at_call 13; refine (l_vWithin R2 R1 HSUB.out _ _ _ _ _ (O4.out.grew (by (repeat (first | with_reducible exact grew_refl _ | with_reducible assumption | with_reducible refine grew_split ?_ | with_reducible refine grew_mk ?_ | with_reducible refine grew_plus ?_ | with_reducible refine grew_alloc ?_ | with_reducible refine grew_drew ?_ | (with_reducible refine grew_set ?_ (by first | exact Nat.le_refl _ | omega | (simp [go_sem]; done) | (simp [go_sem]; omega))))))) (O3.out.grew (by (repeat (first | with_reducible exact grew_refl _ | with_reducible assumption | with_reducible refine grew_split ?_ | with_reducible refine grew_mk ?_ | with_reducible refine grew_plus ?_ | with_reducible refine grew_alloc ?_ | with_reducible refine grew_drew ?_ | (with_reducible refine grew_set ?_ (by first | exact Nat.le_refl _ | omega | (simp [go_sem]; done) | (simp [go_sem]; omega))))))) (by omega) (by omega)).mono ?_; (rintro e w' ⟨rfl, gx, rfl⟩))
            go_meet
            exact ⟨_, rfl⟩
          · have h4' : (k == 4) = false := by simp [h4]
            have h5' : (k == 5) = false := by simp [h5]
            go_wp2_with (go_at_call 13; refine (l_vWithin R2 R1 HSUB.out _ _ _ _ _ (O4.out.grew (by (repeat (first | with_reducible exact grew_refl _ | with_reducible assumption | with_reducible refine grew_split ?_ | with_reducible refine grew_mk ?_ | with_reducible refine grew_plus ?_ | with_reducible refine grew_alloc ?_ | with_reducible refine grew_drew ?_ | (with_reducible refine grew_set ?_ (by first | exact Nat.le_refl _ | omega | (simp [go_sem]; done) | (simp [go_sem]; omega))))))) (O3.out.grew (by (repeat (first | with_reducible exact grew_refl _ | with_reducible assumption | with_reducible refine grew_split ?_ | with_reducible refine grew_mk ?_ | with_reducible refine grew_plus ?_ | with_reducible refine grew_alloc ?_ | with_reducible refine grew_drew ?_ | (with_reducible refine grew_set ?_ (by first | exact Nat.le_refl _ | omega | (simp [go_sem]; done) | (simp [go_sem]; omega))))))) (by omega) (by omega)).mono ?_; (rintro e w' ⟨rfl, gx, rfl⟩))
            go_meet
            exact ⟨_, rfl⟩
    case rest =>
      obtain ⟨gr2, rfl⟩ := hcut
      go_upto_region 14 with fail
      refine opq_wp (fun W3 => Code0 W3 A bs ∧ ∃ g, W3 = plus w g) ⟨HC.out.grewE (by have hg := HG2.out; (repeat (first | with_reducible exact grew_refl _ | with_reducible assumption | with_reducible refine grew_split ?_ | with_reducible refine grew_mk ?_ | with_reducible refine grew_plus ?_ | with_reducible refine grew_alloc ?_ | with_reducible refine grew_drew ?_ | (with_reducible refine grew_set ?_ (by first | exact Nat.le_refl _ | omega | (simp [go_sem]; done) | (simp [go_sem]; omega)))))), by have hg := HG2.out; (repeat (first | with_reducible exact grew_refl _ | with_reducible assumption | with_reducible refine grew_split ?_ | with_reducible refine grew_mk ?_ | with_reducible refine grew_plus ?_ | with_reducible refine grew_alloc ?_ | with_reducible refine grew_drew ?_ | (with_reducible refine grew_set ?_ (by first | exact Nat.le_refl _ | omega | (simp [go_sem]; done) | (simp [go_sem]; omega)))))⟩ ?_
      clear hd0 hd1 hd2 hd3 hd4 hd5 hd6 ho0 ho1 ho2 ho3 ho4 ho5 ho6 hs0 hs1 hld hls hlo HBd HBs HBo HV HO1 HO2 HG2 HST ho8 hl8 x0 x1
      rintro W3 ⟨hC3, hg3⟩
      have HC3 := hid hC3
      have HG3 := hid hg3
      clear hC3 hg3
      go_wp2_with fail
      refine (s_DrawRunDay A c bs _ HC3.out).mono ?_
      rintro e W4 ⟨⟨v, B, d, L, rfl, hl8, hS, hSL, hL⟩, hg4⟩
      have HG4 := hid (grew_two' HG3.out hg4)
      have HS := hid hS
      have HSL := hid hSL
      clear hS hSL hg4
      obtain ⟨E, n, t, hrun⟩ : ∃ E n t, runF v.core L = (E, n, t) := ⟨_, _, _, rfl⟩
      have hE8 := runF_len v.core L
      rw [hrun] at hE8
      simp only at hE8
      have HRUN := hid hrun
      clear hrun
      go_wp2_with fail
      refine (i_RunDay v L B d _ ⟨HS.out.grew (by (repeat (first | with_reducible exact grew_refl _ | with_reducible assumption | with_reducible refine grew_split ?_ | with_reducible refine grew_mk ?_ | with_reducible refine grew_plus ?_ | with_reducible refine grew_alloc ?_ | with_reducible refine grew_drew ?_ | (with_reducible refine grew_set ?_ (by first | exact Nat.le_refl _ | omega | (simp [go_sem]; done) | (simp [go_sem]; omega)))))), (by unfold maxLen; omega)⟩ (HSL.out.grew (by (repeat (first | with_reducible exact grew_refl _ | with_reducible assumption | with_reducible refine grew_split ?_ | with_reducible refine grew_mk ?_ | with_reducible refine grew_plus ?_ | with_reducible refine grew_alloc ?_ | with_reducible refine grew_drew ?_ | (with_reducible refine grew_set ?_ (by first | exact Nat.le_refl _ | omega | (simp [go_sem]; done) | (simp [go_sem]; omega))))))) (by unfold maxLen; omega)).mono ?_
      rw [HRUN.out]
      rintro e w' ⟨⟨A1, c1, rfl, hO1⟩, g1, rfl⟩
      (try rw [plus_plus] at hO1)
      have O1 := hid hO1.sl
      clear hO1
      go_wp2_with fail
      refine (s_RunDay v L B d _ ⟨HS.out.grew (by (repeat (first | with_reducible exact grew_refl _ | with_reducible assumption | with_reducible refine grew_split ?_ | with_reducible refine grew_mk ?_ | with_reducible refine grew_plus ?_ | with_reducible refine grew_alloc ?_ | with_reducible refine grew_drew ?_ | (with_reducible refine grew_set ?_ (by first | exact Nat.le_refl _ | omega | (simp [go_sem]; done) | (simp [go_sem]; omega)))))), (by unfold maxLen; omega)⟩ (HSL.out.grew (by (repeat (first | with_reducible exact grew_refl _ | with_reducible assumption | with_reducible refine grew_split ?_ | with_reducible refine grew_mk ?_ | with_reducible refine grew_plus ?_ | with_reducible refine grew_alloc ?_ | with_reducible refine grew_drew ?_ | (with_reducible refine grew_set ?_ (by first | exact Nat.le_refl _ | omega | (simp [go_sem]; done) | (simp [go_sem]; omega))))))) (by unfold maxLen; omega)).mono ?_
      rw [HRUN.out]
      rintro e w' ⟨⟨A2, c2, rfl, hO2⟩, g2, rfl⟩
      (try rw [plus_plus] at hO2)
      have O2 := hid hO2.sl
      clear hO2
      go_upto_region 17 with fail
      generalize hb5 : W4.heap.size + 1 + g1.objs.size = b5
      generalize hb7 : b5 + 1 + g2.objs.size = b7
      refine opq_wp (fun W5 => Blk W5 W4.heap.size 26 #[.int .i64 (v.core).minute, .int .i64 (v.core).state, .slice v.A (v.core).lines.length v.c, .int .i64 (v.core).line, .int .i64 (v.core).since, .int .i64 (v.core).cast, .int .i64 (v.core).fuel] ∧ Blk W5 b5 26 #[.int .i64 (E).minute, .int .i64 (E).state, .slice A1 (E).lines.length c1, .int .i64 (E).line, .int .i64 (E).since, .int .i64 (E).cast, .int .i64 (E).fuel] ∧ Blk W5 b7 26 #[.int .i64 (E).minute, .int .i64 (E).state, .slice A2 (E).lines.length c2, .int .i64 (E).line, .int .i64 (E).since, .int .i64 (E).cast, .int .i64 (E).fuel] ∧ Sl W5 2 LineR.row v.A v.core.lines ∧ Sl W5 2 LineR.row A1 E.lines ∧ Sl W5 2 LineR.row A2 E.lines ∧ Sl W5 2 StepR.row B L ∧ ∃ g, W5 = plus w g) ⟨blk_grew (blk_new rfl) (by (repeat (first | with_reducible exact grew_refl _ | with_reducible assumption | with_reducible refine grew_split ?_ | with_reducible refine grew_mk ?_ | with_reducible refine grew_plus ?_ | with_reducible refine grew_alloc ?_ | with_reducible refine grew_drew ?_ | (with_reducible refine grew_set ?_ (by first | exact Nat.le_refl _ | omega | (simp [go_sem]; done) | (simp [go_sem]; omega)))))), blk_grew (blk_new (w := plus (W4.alloc _) g1) (by subst hb5; simp [go_sem])) (by (repeat (first | with_reducible exact grew_refl _ | with_reducible assumption | with_reducible refine grew_split ?_ | with_reducible refine grew_mk ?_ | with_reducible refine grew_plus ?_ | with_reducible refine grew_alloc ?_ | with_reducible refine grew_drew ?_ | (with_reducible refine grew_set ?_ (by first | exact Nat.le_refl _ | omega | (simp [go_sem]; done) | (simp [go_sem]; omega)))))), blk_new (by subst hb7 hb5; simp [go_sem]), HS.out.grew (by (repeat (first | with_reducible exact grew_refl _ | with_reducible assumption | with_reducible refine grew_split ?_ | with_reducible refine grew_mk ?_ | with_reducible refine grew_plus ?_ | with_reducible refine grew_alloc ?_ | with_reducible refine grew_drew ?_ | (with_reducible refine grew_set ?_ (by first | exact Nat.le_refl _ | omega | (simp [go_sem]; done) | (simp [go_sem]; omega)))))), O1.out.grew (by (repeat (first | with_reducible exact grew_refl _ | with_reducible assumption | with_reducible refine grew_split ?_ | with_reducible refine grew_mk ?_ | with_reducible refine grew_plus ?_ | with_reducible refine grew_alloc ?_ | with_reducible refine grew_drew ?_ | (with_reducible refine grew_set ?_ (by first | exact Nat.le_refl _ | omega | (simp [go_sem]; done) | (simp [go_sem]; omega)))))), O2.out.grew (by (repeat (first | with_reducible exact grew_refl _ | with_reducible assumption | with_reducible refine grew_split ?_ | with_reducible refine grew_mk ?_ | with_reducible refine grew_plus ?_ | with_reducible refine grew_alloc ?_ | with_reducible refine grew_drew ?_ | (with_reducible refine grew_set ?_ (by first | exact Nat.le_refl _ | omega | (simp [go_sem]; done) | (simp [go_sem]; omega)))))), HSL.out.grew (by (repeat (first | with_reducible exact grew_refl _ | with_reducible assumption | with_reducible refine grew_split ?_ | with_reducible refine grew_mk ?_ | with_reducible refine grew_plus ?_ | with_reducible refine grew_alloc ?_ | with_reducible refine grew_drew ?_ | (with_reducible refine grew_set ?_ (by first | exact Nat.le_refl _ | omega | (simp [go_sem]; done) | (simp [go_sem]; omega)))))), by have hg := HG4.out; (repeat (first | with_reducible exact grew_refl _ | with_reducible assumption | with_reducible refine grew_split ?_ | with_reducible refine grew_mk ?_ | with_reducible refine grew_plus ?_ | with_reducible refine grew_alloc ?_ | with_reducible refine grew_drew ?_ | (with_reducible refine grew_set ?_ (by first | exact Nat.le_refl _ | omega | (simp [go_sem]; done) | (simp [go_sem]; omega)))))⟩ ?_
      clear hb5 hb7 HS O1 O2 HG4 HSL HC3
      rintro W5 ⟨hBd, hBo, hBw, hS, hS1, hS2, hSL, hg5⟩
      have HBd := hid hBd
      have HBo := hid hBo
      have HS := hid hS
      have HO1 := hid (DayV.At.mk (v := ⟨E, A1, c1⟩) hS1 (by unfold maxLen; simp only; omega))
      have HO2 := hid (DayV.At.mk (v := ⟨E, A2, c2⟩) hS2 (by unfold maxLen; simp only; omega))
      have HSL := hid hSL
      have HG5 := hid hg5
      have hld := hBd.lt
      have hlo := hBo.lt
      have hlw := hBw.lt
      (have hd0 := hBd.cell 0; have hd1 := hBd.cell 1; have hd2 := hBd.cell 2; have hd3 := hBd.cell 3; have hd4 := hBd.cell 4; have hd5 := hBd.cell 5; have hd6 := hBd.cell 6; simp [go_sem] at hd0 hd1 hd2 hd3 hd4 hd5 hd6)
      (have ho0 := hBo.cell 0; have ho1 := hBo.cell 1; have ho2 := hBo.cell 2; have ho3 := hBo.cell 3; have ho4 := hBo.cell 4; have ho5 := hBo.cell 5; have ho6 := hBo.cell 6; simp [go_sem] at ho0 ho1 ho2 ho3 ho4 ho5 ho6)
      (have hw0 := hBw.cell 0; have hw1 := hBw.cell 1; have hw2 := hBw.cell 2; have hw3 := hBw.cell 3; have hw4 := hBw.cell 4; have hw5 := hBw.cell 5; have hw6 := hBw.cell 6; simp [go_sem] at hw0 hw1 hw2 hw3 hw4 hw5 hw6)
      have e1 : (t != t) = false := by simp
      have e2 : (n != n) = false := by simp
      clear hBd hBo hBw hS hS1 hS2 hSL hg5
      go_upto_if 178 with (go_at_call 8; refine (l_vDay E A1 A2 c1 c2 _ (HO1.out.grew (by (repeat (first | with_reducible exact grew_refl _ | with_reducible assumption | with_reducible refine grew_split ?_ | with_reducible refine grew_mk ?_ | with_reducible refine grew_plus ?_ | with_reducible refine grew_alloc ?_ | with_reducible refine grew_drew ?_ | (with_reducible refine grew_set ?_ (by first | exact Nat.le_refl _ | omega | (simp [go_sem]; done) | (simp [go_sem]; omega))))))) (HO2.out.grew (by (repeat (first | with_reducible exact grew_refl _ | with_reducible assumption | with_reducible refine grew_split ?_ | with_reducible refine grew_mk ?_ | with_reducible refine grew_plus ?_ | with_reducible refine grew_alloc ?_ | with_reducible refine grew_drew ?_ | (with_reducible refine grew_set ?_ (by first | exact Nat.le_refl _ | omega | (simp [go_sem]; done) | (simp [go_sem]; omega)))))))).mono ?_; (rintro e w' ⟨rfl, gx, rfl⟩))
      go_cut [24] (fun _ wx => ∃ g, wx = plus W5 g)
      case first =>
        as_aux_lemma =>
          cases t
          · go_wp2_with fail
            go_meet
            exact ⟨_, rfl⟩
          · obtain ⟨q1, q2⟩ := runF_true HRUN.out
            have HQ1 := hid q1
            have HQ2 := hid q2
            clear q1 q2 hw0 hw1 hw2 hw3 hw4 hw5 hw6 hlw
            go_upto_block 0 with fail
            generalize hbn : W5.heap.size + gx.objs.size = bn
            refine opq_wp (fun W6 => Blk W6 bn 26 #[.int .i64 (v.core).minute, .int .i64 (v.core).state, .slice v.A (v.core).lines.length v.c, .int .i64 (v.core).line, .int .i64 (v.core).since, .int .i64 (v.core).cast, .int .i64 (v.core).fuel] ∧ ∃ g, W6 = plus W5 g) ⟨blk_new (by subst hbn; simp [go_sem]), by (repeat (first | with_reducible exact grew_refl _ | with_reducible assumption | with_reducible refine grew_split ?_ | with_reducible refine grew_mk ?_ | with_reducible refine grew_plus ?_ | with_reducible refine grew_alloc ?_ | with_reducible refine grew_drew ?_ | (with_reducible refine grew_set ?_ (by first | exact Nat.le_refl _ | omega | (simp [go_sem]; done) | (simp [go_sem]; omega)))))⟩ ?_
            have hbn5 : W5.heap.size ≤ bn := by omega
            have hSN : SlN W5 v.A v.core.lines bn := SlN.old HS.out hbn5
            have HSN := hid hSN
            clear hbn hSN
            rintro W6 ⟨hB6, hg6⟩
            have HB6 := hid hB6
            have HG6 := hid hg6
            clear hB6 hg6
            go_wp2_with fail
            go_loopw [24, 25] (fun m i wr => ∃ (k : Nat) (A' : Option Addr) (c' : Nat), k ≤ L.length ∧ i = .int .i64 k ∧ m = .int .i64 (runTo v.core L k).2 ∧ Blk wr bn 26 #[.int .i64 ((runTo v.core L k).1).minute, .int .i64 ((runTo v.core L k).1).state, .slice A' ((runTo v.core L k).1).lines.length c', .int .i64 ((runTo v.core L k).1).line, .int .i64 ((runTo v.core L k).1).since, .int .i64 ((runTo v.core L k).1).cast, .int .i64 ((runTo v.core L k).1).fuel] ∧ SlN wr A' (runTo v.core L k).1.lines bn ∧ ∃ g, wr = plus W5 g) (fun _ i _ => L.length - (intOf i).toNat)
            case atStart => exact ⟨0, v.A, v.c, Nat.zero_le _, rfl, rfl, HB6.out, HSN.out.grew HG6.out, HG6.out⟩
            case round =>
              clear HB6 HG6 HSN
              obtain ⟨k, A', c', hk, rfl, rfl, hB2, hO2, hg2⟩ := hrel
              obtain ⟨p1, p2, p3⟩ := runTo_ok HQ1.out L k hk
              have HL2 := hid (HSL.out.grew hg2)
              generalize hD : runTo v.core L k = D at p1 p2 p3 hB2 hO2 ⊢
              have HD := hid hD
              have HP1 := hid p1
              have HB2 := hid hB2
              have HN2 := hid hO2
              have HG2 := hid hg2
              have hbl := hB2.lt
              have hD8 := (DayC.bounds p1).2.2.2.2.2.1
              have HAT := hid (DayV.At.mk (v := ⟨D.1, A', c'⟩) hO2.1 (Nat.le_trans hD8 (by decide)))
              (have hq0 := hB2.cell 0; have hq1 := hB2.cell 1; have hq2 := hB2.cell 2; have hq3 := hB2.cell 3; have hq4 := hB2.cell 4; have hq5 := hB2.cell 5; have hq6 := hB2.cell 6; simp [go_sem] at hq0 hq1 hq2 hq3 hq4 hq5 hq6)
              (have hf0 := hB2.frozen 0; have hf1 := hB2.frozen 1; have hf2 := hB2.frozen 2; have hf3 := hB2.frozen 3; have hf4 := hB2.frozen 4; have hf5 := hB2.frozen 5; have hf6 := hB2.frozen 6)
              clear hB2 hO2 hg2 p1 hD
              by_cases hlt : k < L.length
              · obtain ⟨b0, off, rfl, hb0, hc⟩ := HL2.out.at_ hlt
                obtain ⟨hc0, hc1⟩ := scells hc hlt
                clear hc
                have hi0 : (0 : Int) ≤ (k : Int) := by omega
                have hi1 : (k : Int) < (L.length : Int) := by omega
                have KEEP : Hid (∀ W : World, (∃ g, W = plus wr g) → ((fun w' => w'.cell? ⟨bn, 0, none⟩ = some (.int .i64 D.1.minute) ∧ w'.cell? ⟨bn, 1, none⟩ = some (.int .i64 D.1.state) ∧ w'.cell? ⟨bn, 2, none⟩ = some (.slice A' D.1.lines.length c') ∧ w'.cell? ⟨bn, 3, none⟩ = some (.int .i64 D.1.line) ∧ w'.cell? ⟨bn, 4, none⟩ = some (.int .i64 D.1.since) ∧ w'.cell? ⟨bn, 5, none⟩ = some (.int .i64 D.1.cast) ∧ w'.cell? ⟨bn, 6, none⟩ = some (.int .i64 D.1.fuel) ∧ w'.cell? ⟨b0, off + k * 2, none⟩ = some (.int .i64 L[k].kind) ∧ w'.cell? ⟨b0, off + k * 2 + 1, none⟩ = some (.int .i64 L[k].value))) W) := hid (by
                  rintro W ⟨g, rfl⟩
                  simp only [cell?_plus _ _ hbl, cell?_plus _ _ hb0, hq0, hq1, hq2, hq3, hq4, hq5, hq6, hc0, hc1, and_self])
                obtain ⟨nd, q, hst⟩ : ∃ nd q, stepAll D.1 L[k].kind L[k].value = (nd, q) := ⟨_, _, rfl⟩
                have hsf : stepF D.1 L[k].kind L[k].value = (nd, q) := by rw [← stepAll_good HP1.out]; exact hst
                have HST := hid hst
                have HSF := hid hsf
                clear hst hsf
                go_wp2_with fail
                go_region_held3 (fun w' => w'.cell? ⟨bn, 0, none⟩ = some (.int .i64 D.1.minute) ∧ w'.cell? ⟨bn, 1, none⟩ = some (.int .i64 D.1.state) ∧ w'.cell? ⟨bn, 2, none⟩ = some (.slice A' D.1.lines.length c') ∧ w'.cell? ⟨bn, 3, none⟩ = some (.int .i64 D.1.line) ∧ w'.cell? ⟨bn, 4, none⟩ = some (.int .i64 D.1.since) ∧ w'.cell? ⟨bn, 5, none⟩ = some (.int .i64 D.1.cast) ∧ w'.cell? ⟨bn, 6, none⟩ = some (.int .i64 D.1.fuel) ∧ w'.cell? ⟨b0, off + k * 2, none⟩ = some (.int .i64 L[k].kind) ∧ w'.cell? ⟨b0, off + k * 2 + 1, none⟩ = some (.int .i64 L[k].value)) (exact KEEP.out _ (by (repeat (first | with_reducible exact grew_refl _ | with_reducible assumption | with_reducible refine grew_split ?_ | with_reducible refine grew_mk ?_ | with_reducible refine grew_plus ?_ | with_reducible refine grew_alloc ?_ | with_reducible refine grew_drew ?_ | (with_reducible refine grew_set ?_ (by first | exact Nat.le_refl _ | omega | (simp [go_sem]; done) | (simp [go_sem]; omega))))))) ((go_at_call 6; refine (i_StepDay ⟨D.1, A', c'⟩ L[k].kind L[k].value _ (HAT.out.grew (by (repeat (first | with_reducible exact grew_refl _ | with_reducible assumption | with_reducible refine grew_split ?_ | with_reducible refine grew_mk ?_ | with_reducible refine grew_plus ?_ | with_reducible refine grew_alloc ?_ | with_reducible refine grew_drew ?_ | (with_reducible refine grew_set ?_ (by first | exact Nat.le_refl _ | omega | (simp [go_sem]; done) | (simp [go_sem]; omega)))))))).mono ?_; rw [HST.out]; rintro e w' ⟨⟨A2, d2, rfl, hO2⟩, gx2, rfl⟩; (try rw [plus_plus] at hO2); have HO2' := hid hO2; clear hO2))
                all_goals
                  refine opq_exit (fun W => Blk W bn 26 #[.int .i64 (D.1).minute, .int .i64 (D.1).state, .slice A' (D.1).lines.length c', .int .i64 (D.1).line, .int .i64 (D.1).since, .int .i64 (D.1).cast, .int .i64 (D.1).fuel] ∧ Blk W _ 26 #[.int .i64 (nd).minute, .int .i64 (nd).state, .slice A2 (nd).lines.length d2, .int .i64 (nd).line, .int .i64 (nd).since, .int .i64 (nd).cast, .int .i64 (nd).fuel] ∧ OwnF wr.heap.size 59 2 LineR.row W A2 nd.lines ∧ ∃ g, W = plus wr g) ⟨blk_grew HB2.out (by (repeat (first | with_reducible exact grew_refl _ | with_reducible assumption | with_reducible refine grew_split ?_ | with_reducible refine grew_mk ?_ | with_reducible refine grew_plus ?_ | with_reducible refine grew_alloc ?_ | with_reducible refine grew_drew ?_ | (with_reducible refine grew_set ?_ (by first | exact Nat.le_refl _ | omega | (simp [go_sem]; done) | (simp [go_sem]; omega)))))), (by first | with_reducible exact blk_new rfl | with_reducible exact blk_grew (blk_new rfl) (grew_plus (grew_refl _))), (by first | with_reducible exact (OwnF.grew HO2'.out (grew_alloc (grew_refl _))).less (below_of_grew (by (repeat (first | with_reducible exact grew_refl _ | with_reducible assumption | with_reducible refine grew_split ?_ | with_reducible refine grew_mk ?_ | with_reducible refine grew_plus ?_ | with_reducible refine grew_alloc ?_ | with_reducible refine grew_drew ?_ | (with_reducible refine grew_set ?_ (by first | exact Nat.le_refl _ | omega | (simp [go_sem]; done) | (simp [go_sem]; omega))))))).size | with_reducible exact (OwnF.base HO2'.out (Nat.le_refl _) (by simp [go_sem])).less (below_of_grew (by (repeat (first | with_reducible exact grew_refl _ | with_reducible assumption | with_reducible refine grew_split ?_ | with_reducible refine grew_mk ?_ | with_reducible refine grew_plus ?_ | with_reducible refine grew_alloc ?_ | with_reducible refine grew_drew ?_ | (with_reducible refine grew_set ?_ (by first | exact Nat.le_refl _ | omega | (simp [go_sem]; done) | (simp [go_sem]; omega))))))).size), by (repeat (first | with_reducible exact grew_refl _ | with_reducible assumption | with_reducible refine grew_split ?_ | with_reducible refine grew_mk ?_ | with_reducible refine grew_plus ?_ | with_reducible refine grew_alloc ?_ | with_reducible refine grew_drew ?_ | (with_reducible refine grew_set ?_ (by first | exact Nat.le_refl _ | omega | (simp [go_sem]; done) | (simp [go_sem]; omega)))))⟩ ?_
                  rintro w7 ⟨hB4, hN4, hO4, hg4⟩
                  have hbl4 := hB4.lt
                  clear hq0 hq1 hq2 hq3 hq4 hq5 hq6 hf0 hf1 hf2 hf3 hf4 hf5 hf6 KEEP hc0 hc1
                  (have hq0 := hB4.cell 0; have hq1 := hB4.cell 1; have hq2 := hB4.cell 2; have hq3 := hB4.cell 3; have hq4 := hB4.cell 4; have hq5 := hB4.cell 5; have hq6 := hB4.cell 6; simp [go_sem] at hq0 hq1 hq2 hq3 hq4 hq5 hq6)
                  (have hf0 := hB4.frozen 0; have hf1 := hB4.frozen 1; have hf2 := hB4.frozen 2; have hf3 := hB4.frozen 3; have hf4 := hB4.frozen 4; have hf5 := hB4.frozen 5; have hf6 := hB4.frozen 6)
                  (have hr0 := hN4.cell 0; have hr1 := hN4.cell 1; have hr2 := hN4.cell 2; have hr3 := hN4.cell 3; have hr4 := hN4.cell 4; have hr5 := hN4.cell 5; have hr6 := hN4.cell 6; simp [go_sem] at hr0 hr1 hr2 hr3 hr4 hr5 hr6)
                  have HB4 := hid hB4
                  have HO4 := hid hO4
                  have HG4 := hid hg4
                  clear hB4 hN4 hO4 hg4
                  cases q
                  · go_wp2_with fail
                    go_roundw
                    case rel =>
                      refine ⟨k + 1, A', c', by omega, by go_num, ?_⟩
                      rw [runTo_no hlt (by rw [HD.out, HSF.out]), HD.out]
                      exact ⟨rfl, HB4.out, HN2.out.grew HG4.out, grew_two' HG2.out HG4.out⟩
                    case measure => simp [intOf]; omega
                  · go_wp2_with fail
                    go_roundw
                    case rel =>
                      refine ⟨k + 1, A2, d2, by omega, by go_num, ?_⟩
                      rw [runTo_yes hlt (by rw [HD.out]; exact HSF.out)]
                      have hg47 := grew_two' HG2.out HG4.out
                      exact ⟨by rw [HD.out], set7v HB4.out, SlN.set (SlN.new HO4.out hbl) (grown_set (g := bn) (grown_set (grown_set (grown_set (grown_set (grown_set (grown_set (grown_refl _ _)))))))), by (repeat (first | with_reducible exact grew_refl _ | with_reducible assumption | with_reducible refine grew_split ?_ | with_reducible refine grew_mk ?_ | with_reducible refine grew_plus ?_ | with_reducible refine grew_alloc ?_ | with_reducible refine grew_drew ?_ | (with_reducible refine grew_set ?_ (by first | exact Nat.le_refl _ | omega | (simp [go_sem]; done) | (simp [go_sem]; omega)))))⟩
                    case measure => simp [intOf]; omega
              · obtain rfl : k = L.length := by omega
                have hDE : D = (E, n) := by rw [← HD.out]; exact HQ2.out
                subst hDE
                simp only at hq0 hq1 hq2 hq3 hq4 hq5 hq6
                have hor2 := blk_grew HBo.out HG2.out
                have hlor := hor2.lt
                (have hr0 := hor2.cell 0; have hr1 := hor2.cell 1; have hr2 := hor2.cell 2; have hr3 := hor2.cell 3; have hr4 := hor2.cell 4; have hr5 := hor2.cell 5; have hr6 := hor2.cell 6; simp [go_sem] at hr0 hr1 hr2 hr3 hr4 hr5 hr6)
                have HO15 := hid (HO1.out.grew HG2.out)
                clear hor2 hf0 hf1 hf2 hf3 hf4 hf5 hf6
                go_wp2_with (go_at_call 8; refine (l_vDay E A' A1 c' c1 _ (HAT.out.grew (by (repeat (first | with_reducible exact grew_refl _ | with_reducible assumption | with_reducible refine grew_split ?_ | with_reducible refine grew_mk ?_ | with_reducible refine grew_plus ?_ | with_reducible refine grew_alloc ?_ | with_reducible refine grew_drew ?_ | (with_reducible refine grew_set ?_ (by first | exact Nat.le_refl _ | omega | (simp [go_sem]; done) | (simp [go_sem]; omega))))))) (HO15.out.grew (by (repeat (first | with_reducible exact grew_refl _ | with_reducible assumption | with_reducible refine grew_split ?_ | with_reducible refine grew_mk ?_ | with_reducible refine grew_plus ?_ | with_reducible refine grew_alloc ?_ | with_reducible refine grew_drew ?_ | (with_reducible refine grew_set ?_ (by first | exact Nat.le_refl _ | omega | (simp [go_sem]; done) | (simp [go_sem]; omega)))))))).mono ?_; (rintro e w' ⟨rfl, gx, rfl⟩))
                go_meet
                have hg := HG2.out
                exact (by (repeat (first | with_reducible exact grew_refl _ | with_reducible assumption | with_reducible refine grew_split ?_ | with_reducible refine grew_mk ?_ | with_reducible refine grew_plus ?_ | with_reducible refine grew_alloc ?_ | with_reducible refine grew_drew ?_ | (with_reducible refine grew_set ?_ (by first | exact Nat.le_refl _ | omega | (simp [go_sem]; done) | (simp [go_sem]; omega))))))
      case rest =>
        obtain ⟨gr5, rfl⟩ := hcut
        go_upto_region 30 with fail
        refine opq_wp (fun W8 => Code0 W8 A bs ∧ ∃ g, W8 = plus w g) ⟨HC.out.grewE (by have hg := HG5.out; (repeat (first | with_reducible exact grew_refl _ | with_reducible assumption | with_reducible refine grew_split ?_ | with_reducible refine grew_mk ?_ | with_reducible refine grew_plus ?_ | with_reducible refine grew_alloc ?_ | with_reducible refine grew_drew ?_ | (with_reducible refine grew_set ?_ (by first | exact Nat.le_refl _ | omega | (simp [go_sem]; done) | (simp [go_sem]; omega)))))), by have hg := HG5.out; (repeat (first | with_reducible exact grew_refl _ | with_reducible assumption | with_reducible refine grew_split ?_ | with_reducible refine grew_mk ?_ | with_reducible refine grew_plus ?_ | with_reducible refine grew_alloc ?_ | with_reducible refine grew_drew ?_ | (with_reducible refine grew_set ?_ (by first | exact Nat.le_refl _ | omega | (simp [go_sem]; done) | (simp [go_sem]; omega)))))⟩ ?_
        clear hd0 hd1 hd2 hd3 hd4 hd5 hd6 ho0 ho1 ho2 ho3 ho4 ho5 ho6 hw0 hw1 hw2 hw3 hw4 hw5 hw6 hld hlo hlw HBd HBo HS HO1 HO2 HSL HG5 HRUN hE8 hl8 e1 e2
        rintro W8 ⟨hC8, hg8⟩
        have HC8 := hid hC8
        have HG8 := hid hg8
        clear hC8 hg8
        go_wp2_with fail
        refine (s_DrawNewSurveyDay A c bs _ HC8.out).mono ?_
        rintro e W9 ⟨⟨B, d, ms, fu, rfl, hml, hS, f0, f1⟩, hg9⟩
        have HG9 := hid (grew_two' HG8.out hg9)
        have HS := hid hS
        have hF8 := newF_len8 ms fu
        have e3 : ((newC ms fu).ok == (newC ms fu).ok) = true := by simp
        clear hS hg9
        go_wp2_with fail
        refine (i_NewSurveyDay ms B d fu _ (HS.out.grew (by (repeat (first | with_reducible exact grew_refl _ | with_reducible assumption | with_reducible refine grew_split ?_ | with_reducible refine grew_mk ?_ | with_reducible refine grew_plus ?_ | with_reducible refine grew_alloc ?_ | with_reducible refine grew_drew ?_ | (with_reducible refine grew_set ?_ (by first | exact Nat.le_refl _ | omega | (simp [go_sem]; done) | (simp [go_sem]; omega))))))) (by omega)).mono ?_
        rintro e w' ⟨⟨A1, c1, rfl, hO1⟩, g1, rfl⟩
        (try rw [plus_plus] at hO1)
        have O1 := hid hO1.sl
        clear hO1
        go_wp2_with fail
        refine (s_NewSurveyDay ms B d fu _ (HS.out.grew (by (repeat (first | with_reducible exact grew_refl _ | with_reducible assumption | with_reducible refine grew_split ?_ | with_reducible refine grew_mk ?_ | with_reducible refine grew_plus ?_ | with_reducible refine grew_alloc ?_ | with_reducible refine grew_drew ?_ | (with_reducible refine grew_set ?_ (by first | exact Nat.le_refl _ | omega | (simp [go_sem]; done) | (simp [go_sem]; omega))))))) (by omega)).mono ?_
        rintro e w' ⟨⟨A2, c2, rfl, hO2⟩, g2, rfl⟩
        (try rw [plus_plus] at hO2)
        have O2 := hid hO2.sl
        clear hO2
        go_wp2_with (go_at_call 8; refine (l_vDay (newF ms fu) A1 A2 c1 c2 _ ⟨O1.out.grew (by (repeat (first | with_reducible exact grew_refl _ | with_reducible assumption | with_reducible refine grew_split ?_ | with_reducible refine grew_mk ?_ | with_reducible refine grew_plus ?_ | with_reducible refine grew_alloc ?_ | with_reducible refine grew_drew ?_ | (with_reducible refine grew_set ?_ (by first | exact Nat.le_refl _ | omega | (simp [go_sem]; done) | (simp [go_sem]; omega)))))), by unfold maxLen; simp only; omega⟩ ⟨O2.out.grew (by (repeat (first | with_reducible exact grew_refl _ | with_reducible assumption | with_reducible refine grew_split ?_ | with_reducible refine grew_mk ?_ | with_reducible refine grew_plus ?_ | with_reducible refine grew_alloc ?_ | with_reducible refine grew_drew ?_ | (with_reducible refine grew_set ?_ (by first | exact Nat.le_refl _ | omega | (simp [go_sem]; done) | (simp [go_sem]; omega)))))), by unfold maxLen; simp only; omega⟩).mono ?_; (rintro e w' ⟨rfl, gx, rfl⟩))
        go_ret
        have hg := HG9.out
        exact ⟨rfl, by (repeat (first | with_reducible exact grew_refl _ | with_reducible assumption | with_reducible refine grew_split ?_ | with_reducible refine grew_mk ?_ | with_reducible refine grew_plus ?_ | with_reducible refine grew_alloc ?_ | with_reducible refine grew_drew ?_ | (with_reducible refine grew_set ?_ (by first | exact Nat.le_refl _ | omega | (simp [go_sem]; done) | (simp [go_sem]; omega)))))⟩
theorem fnSurveyDays_own : ownKnob Try.prog.godebug = none := by kernel_rfl
theorem fnSurveyDays_laidOut : laidOutB Try.prog = true := by kernel_rfl
set_option maxRecDepth 100000 in
theorem fnSurveyDays_lifted (os : Os) (started : os.Started) (H : Type) (enc : TypeId × Value → H) :
    ReturnsInHanded {} Try.checked os 3 .any (Rows.fnSurveyDaysSpec.pre6 enc Try.prog Try.f3 Rows.fnSurveyDaysRow.domain false) (Rows.fnSurveyDaysSpec.post enc Try.prog Try.f3 false true false false) := by
  refine returnsInHanded_of_change (C := Try.checked) fnSurveyDays_own started (by kernel_rfl) Try.func3
    (ChangeSpec.witness6 (enc := enc) (C := Try.checked) false ⟨#[], #[.slice none 0 0], []⟩ 8 (by kernel_rfl) (by kernel_rfl) (by kernel_rfl) (by kernel_rfl)) ?_
  intro W base args ds gs before hval0 hW hcnd _
  have hval : ∀ (j : Nat) t v, Try.f3.params[j]? = some t → args[j]? = some v → Value.okWide Try.prog W .any base t v := hval0
  have hW' := hW
  obtain ⟨p, q, hA0, hV, rfl, hfz, hnd⟩ := hW
  have hA : DataW.TrodAll enc Try.prog W 0 (fun _ => true) true Try.f3.params.toList args.toList ds p := hA0
  rw [Try.params3] at hA hval
  obtain ⟨v0, vs0, d0, ds0, p0, q0, hargs, rfl, rfl, h0, r0⟩ := trodAll_cons hA
  obtain ⟨rfl, rfl, rfl⟩ := trodAll_nil r0
  obtain rfl : args = #[v0] := by cases args; simp_all
  obtain ⟨rfl, rfl⟩ := trodVars_none hV
  have k0 := h0
  have lt0 : ∀ x ∈ p0, x.block < W.heap.size := by obtain ⟨m, hm⟩ := k0; exact DataW.trod_lt m _ _ _ hm
  obtain ⟨A, c, l, rfl, hS, hb, hl⟩ := open_code (hval 0 22 v0 rfl rfl) h0
  clear hA0 hval0
  refine (l_FnSurveyDays A c l W hS hb hl).mono fun e W' ⟨he, hg⟩ => ?_
  have bel := below_of_grew hg
  subst he
  exact ⟨_, rfl, _, _, _, [], _, [], hW', trodAll_mk1 (shut_bool Try.underlying4 _), (trodAll_cons_mk (Below.trod fnSurveyDays_laidOut (by kernel_rfl) (of_decide_eq_true (by kernel_rfl)) k0 bel lt0) trodAll_mk0), rfl, bel.frame _, fun h => by cases h⟩
theorem fnSurveyDays_over : Rows.fnSurveyDaysRow.holds Try.pinned (OpenSpec.ofChange Rows.fnSurveyDaysSpec) :=
  OpenClaim.holds_of_wide 3 Try.f3 rfl rfl rfl rfl rfl rfl rfl ⟨rfl, rfl, rfl, rfl, rfl⟩ rfl rfl rfl rfl rfl (by kernel_rfl) Try.func3 (by kernel_rfl)
    (of_decide_eq_true (by kernel_rfl)) (by unfold Func.isWrapper; first | (rw [if_pos (by decide +kernel)]; kernel_rfl) | (rw [if_neg (by decide +kernel)]; exact ⟨rfl, rfl⟩))
    (fun os started H enc _ => fnSurveyDays_lifted os started H enc)
theorem fnSurveyDays_holds : Rows.FnSurveyDaysSaid := fnSurveyDays_over
end Go.Proofs.Ytcljcbbkbepmjaa
