/- The law FnToDo: what is left becomes less with each minute on a line, and no more lines are possible than are to be done. No condition beyond the row's own: the tables that strconv reads hold what they hold at the start. -/
import Derived.Test.YtcljcbbkbepmjaaDoorDoor
import Derived.Test.YtcljcbbkbepmjaaDoorN2
import Derived.Test.YtcljcbbkbepmjaaDoorFb
import Derived.Test.YtcljcbbkbepmjaaDoorVd
import Derived.Test.YtcljcbbkbepmjaaDoorE9
import Derived.Test.YtcljcbbkbepmjaaDoorE3
import Derived.Test.YtcljcbbkbepmjaaDoorD4
import Derived.Test.YtcljcbbkbepmjaaDoorAl
import Derived.Test.YtcljcbbkbepmjaaDoorOpenCode
import Derived.Deep.CutBlock
import Derived.Deep.DeepCutAuto
namespace Go.Proofs.YtcljcbbkbepmjaaDoor
open Go.ChangeShapes Go.WideShapes Go.ChangeAt Go.RowKit Go.Deep Go.Joins
open Go.ChangeMaps (open_string shut_string)

theorem left_facts (d : DayC) : ∃ lf : Int, leftF d = (lf, d.ok) ∧ 0 ≤ lf ∧ lf ≤ 2400 := by
  unfold leftF
  cases h : d.ok
  · exact ⟨0, rfl, by omega, by omega⟩
  · have h1 := leftTo_bound h d.lines.length (Nat.le_refl _)
    have h2 := DayC.bounds h
    exact ⟨_, rfl, h1.1, by omega⟩
theorem most_facts (d : DayC) : ∃ m : Int, mostF d = (m, d.ok) ∧ 0 ≤ m ∧ m ≤ 8 := by
  unfold mostF
  cases h : d.ok
  · exact ⟨0, rfl, by omega, by omega⟩
  · have h2 := DayC.bounds h
    have h1 := greedy_bounds h (1440 - d.minute) (by omega) (sOf d).length
    have h3 := sOf_len d
    exact ⟨_, rfl, h1.1, by omega⟩
set_option maxHeartbeats 8000000 in
set_option maxRecDepth 100000 in
theorem l_FnToDo (A : Option Addr) (c : Nat) (bs : List Int) (w : World) (hA : Sl w 1 byteRow A bs) (hb : ∀ x ∈ bs, 0 ≤ x ∧ x ≤ 255) (_hl : bs.length ≤ maxLen) (hT : Tab w) :
    Calls Tryd.prog 3 #[.slice A bs.length c] w fun e' w' => e' = .returned (.bool true) ∧ ∃ g, w' = plus w g := by
  have HA := hid hA
  have HB := hid hb
  have HT := hid hT
  clear hA hb hT
  by_cases hbig : (65536 : Int) < (bs.length : Int)
  · go_enter Tryd.func3, Tryd.ntmps3
    go_wp2_with (go_at_call 4; refine (l_vBig _ _ _ _).mono ?_; (rintro e w' ⟨rfl, rfl⟩))
    go_ret
    exact ⟨rfl, by (repeat (first | with_reducible exact grew_refl _ | with_reducible assumption | with_reducible refine grew_split ?_ | with_reducible refine grew_mk ?_ | with_reducible refine grew_plus ?_ | with_reducible refine grew_alloc ?_ | with_reducible refine grew_drew ?_ | (with_reducible refine grew_set ?_ (by first | exact Nat.le_refl _ | omega | (simp [go_sem]; done) | (simp [go_sem]; omega)))))⟩
  have HC := hid (show Code0 w A bs from ⟨HA.out, HB.out, by omega⟩)
  clear HA HB
  go_enter Tryd.func3, Tryd.ntmps3
  go_wp2_with (go_at_call 4; refine (l_vBig _ _ _ _).mono ?_; (rintro e w' ⟨rfl, rfl⟩))
  refine (s_DrawMinutesLeft A c bs _ HC.out).mono ?_
  rintro e W1 ⟨⟨v, rfl, hl8, hO⟩, hg⟩
  have HG := hid hg
  have HS := hid hO.sl
  clear hO hg
  obtain ⟨lf, hlf, lf0, lf1⟩ := left_facts v.core
  obtain ⟨mo, hmo, mo0, mo1⟩ := most_facts v.core
  have hwl := fun o => wait_law (d := v.core) (o := o)
  have hmt := most_todo v.core
  rw [hmo] at hmt
  have z1 := todoF_len v.core
  have hi1 := i_LinesToDo v
  have hs1 := s_LinesToDo v
  obtain ⟨b, hb⟩ : ∃ b, v.core.ok = b := ⟨_, rfl⟩
  rw [hb] at hlf hmo hmt hi1 hs1
  simp only at hmt
  have HWL : Hid (∀ o, stepAll v.core 1 1 = (o, true) → o.ok = true ∧ (leftF o).1 ≤ lf ∧ lf - 1 ≤ (leftF o).1 ∧ (mostF o).1 ≤ mo) := hid (fun o h => by
    obtain ⟨_, h2, h3, h4, h5⟩ := hwl o h
    rw [hlf] at h3 h4
    rw [hmo] at h5
    exact ⟨h2, h3, h4, h5⟩)
  obtain ⟨R, hR⟩ : ∃ R, todoF v.core = R := ⟨_, rfl⟩
  rw [hR] at hmt z1 hi1 hs1
  have HLF := hid hlf
  have HMO := hid hmo
  have HI1 := hid hi1
  have HS1 := hid hs1
  have HMT := hid hmt
  have e1 : (lf != lf) = false := by simp
  have e2 : (b != b) = false := by simp
  have e3 : (mo != mo) = false := by simp
  clear hlf hmo hi1 hs1 hb hR hwl hmt
  go_wp2_with fail
  refine (i_SurveyMinutesLeft v _ ⟨HS.out.grew (by (repeat (first | with_reducible exact grew_refl _ | with_reducible assumption | with_reducible refine grew_split ?_ | with_reducible refine grew_mk ?_ | with_reducible refine grew_plus ?_ | with_reducible refine grew_alloc ?_ | with_reducible refine grew_drew ?_ | (with_reducible refine grew_set ?_ (by first | exact Nat.le_refl _ | omega | (simp [go_sem]; done) | (simp [go_sem]; omega)))))), (by unfold maxLen; omega)⟩).mono ?_
  rw [HLF.out]
  (rintro e w' ⟨rfl, gx, rfl⟩)
  go_wp2_with fail
  refine (s_SurveyMinutesLeft v _ ⟨HS.out.grew (by (repeat (first | with_reducible exact grew_refl _ | with_reducible assumption | with_reducible refine grew_split ?_ | with_reducible refine grew_mk ?_ | with_reducible refine grew_plus ?_ | with_reducible refine grew_alloc ?_ | with_reducible refine grew_drew ?_ | (with_reducible refine grew_set ?_ (by first | exact Nat.le_refl _ | omega | (simp [go_sem]; done) | (simp [go_sem]; omega)))))), (by unfold maxLen; omega)⟩).mono ?_
  rw [HLF.out]
  (rintro e w' ⟨rfl, gx, rfl⟩)
  go_wp2_with fail
  refine (HI1.out _ ⟨HS.out.grew (by (repeat (first | with_reducible exact grew_refl _ | with_reducible assumption | with_reducible refine grew_split ?_ | with_reducible refine grew_mk ?_ | with_reducible refine grew_plus ?_ | with_reducible refine grew_alloc ?_ | with_reducible refine grew_drew ?_ | (with_reducible refine grew_set ?_ (by first | exact Nat.le_refl _ | omega | (simp [go_sem]; done) | (simp [go_sem]; omega)))))), (by unfold maxLen; omega)⟩).mono ?_
  rintro e w' ⟨⟨A1, c1, rfl, hO1⟩, g1, rfl⟩
  (try rw [plus_plus] at hO1)
  have O1 := hid (hO1.sl intRow_len)
  clear hO1
  go_wp2_with fail
  refine (HS1.out _ ⟨HS.out.grew (by (repeat (first | with_reducible exact grew_refl _ | with_reducible assumption | with_reducible refine grew_split ?_ | with_reducible refine grew_mk ?_ | with_reducible refine grew_plus ?_ | with_reducible refine grew_alloc ?_ | with_reducible refine grew_drew ?_ | (with_reducible refine grew_set ?_ (by first | exact Nat.le_refl _ | omega | (simp [go_sem]; done) | (simp [go_sem]; omega)))))), (by unfold maxLen; omega)⟩).mono ?_
  rintro e w' ⟨⟨A2, c2, rfl, hO2⟩, g2, rfl⟩
  (try rw [plus_plus] at hO2)
  have O2 := hid (hO2.sl intRow_len)
  clear hO2
  go_upto_region 12 with (go_at_call 10; refine (l_vInts R A1 A2 c1 c2 _ (O1.out.grew (by (repeat (first | with_reducible exact grew_refl _ | with_reducible assumption | with_reducible refine grew_split ?_ | with_reducible refine grew_mk ?_ | with_reducible refine grew_plus ?_ | with_reducible refine grew_alloc ?_ | with_reducible refine grew_drew ?_ | (with_reducible refine grew_set ?_ (by first | exact Nat.le_refl _ | omega | (simp [go_sem]; done) | (simp [go_sem]; omega))))))) (O2.out.grew (by (repeat (first | with_reducible exact grew_refl _ | with_reducible assumption | with_reducible refine grew_split ?_ | with_reducible refine grew_mk ?_ | with_reducible refine grew_plus ?_ | with_reducible refine grew_alloc ?_ | with_reducible refine grew_drew ?_ | (with_reducible refine grew_set ?_ (by first | exact Nat.le_refl _ | omega | (simp [go_sem]; done) | (simp [go_sem]; omega))))))) (by unfold maxLen; omega)).mono ?_; (rintro e w' ⟨rfl, gx, rfl⟩))
  go_upto_region 13 with (go_at_call 11; refine (i_MostLines v _ ⟨HS.out.grew (by (repeat (first | with_reducible exact grew_refl _ | with_reducible assumption | with_reducible refine grew_split ?_ | with_reducible refine grew_mk ?_ | with_reducible refine grew_plus ?_ | with_reducible refine grew_alloc ?_ | with_reducible refine grew_drew ?_ | (with_reducible refine grew_set ?_ (by first | exact Nat.le_refl _ | omega | (simp [go_sem]; done) | (simp [go_sem]; omega)))))), (by unfold maxLen; omega)⟩).mono ?_; rw [HMO.out]; (rintro e w' ⟨rfl, gx, rfl⟩))
  refine opq_wp (fun W2 => Blk W2 W1.heap.size 26 #[.int .i64 (v.core).minute, .int .i64 (v.core).state, .slice v.A (v.core).lines.length v.c, .int .i64 (v.core).line, .int .i64 (v.core).since, .int .i64 (v.core).cast, .int .i64 (v.core).fuel] ∧ Sl W2 2 LineR.row v.A v.core.lines ∧ ∃ g, W2 = plus w g) ⟨blk_grew (blk_new rfl) (by (repeat (first | with_reducible exact grew_refl _ | with_reducible assumption | with_reducible refine grew_split ?_ | with_reducible refine grew_mk ?_ | with_reducible refine grew_plus ?_ | with_reducible refine grew_alloc ?_ | with_reducible refine grew_drew ?_ | (with_reducible refine grew_set ?_ (by first | exact Nat.le_refl _ | omega | (simp [go_sem]; done) | (simp [go_sem]; omega)))))), HS.out.grew (by (repeat (first | with_reducible exact grew_refl _ | with_reducible assumption | with_reducible refine grew_split ?_ | with_reducible refine grew_mk ?_ | with_reducible refine grew_plus ?_ | with_reducible refine grew_alloc ?_ | with_reducible refine grew_drew ?_ | (with_reducible refine grew_set ?_ (by first | exact Nat.le_refl _ | omega | (simp [go_sem]; done) | (simp [go_sem]; omega)))))), by have hg := HG.out; (repeat (first | with_reducible exact grew_refl _ | with_reducible assumption | with_reducible refine grew_split ?_ | with_reducible refine grew_mk ?_ | with_reducible refine grew_plus ?_ | with_reducible refine grew_alloc ?_ | with_reducible refine grew_drew ?_ | (with_reducible refine grew_set ?_ (by first | exact Nat.le_refl _ | omega | (simp [go_sem]; done) | (simp [go_sem]; omega)))))⟩ ?_
  clear HS O1 O2 HI1 HS1 HG
  rintro W2 ⟨hB, hS, hg⟩
  have HS := hid hS
  have HG2 := hid hg
  have hbl := hB.lt
  (have hd0 := hB.cell 0; have hd1 := hB.cell 1; have hd2 := hB.cell 2; have hd3 := hB.cell 3; have hd4 := hB.cell 4; have hd5 := hB.cell 5; have hd6 := hB.cell 6; simp [go_sem] at hd0 hd1 hd2 hd3 hd4 hd5 hd6)
  clear hB hS hg
  go_upto_region 14 with (go_at_call 12; refine (s_MostLines v _ ⟨HS.out.grew (by (repeat (first | with_reducible exact grew_refl _ | with_reducible assumption | with_reducible refine grew_split ?_ | with_reducible refine grew_mk ?_ | with_reducible refine grew_plus ?_ | with_reducible refine grew_alloc ?_ | with_reducible refine grew_drew ?_ | (with_reducible refine grew_set ?_ (by first | exact Nat.le_refl _ | omega | (simp [go_sem]; done) | (simp [go_sem]; omega)))))), (by unfold maxLen; omega)⟩).mono ?_; rw [HMO.out]; (rintro e w' ⟨rfl, gx, rfl⟩))
  go_cut [109] (fun t wx => t = .bool false ∧ ∃ g, wx = plus W2 g)
  case first =>
    as_aux_lemma =>
      cases b
      · go_wp2_with fail
        go_meet
        exact ⟨rfl, _, rfl⟩
      · have hle := HMT.out rfl
        go_wp2_with fail
        go_meet
        exact ⟨congrArg Value.bool (decide_eq_false (by omega)), _, rfl⟩
  case rest =>
    obtain ⟨rfl, g3, rfl⟩ := hcut
    go_upto_if 110 with fail
    go_cut [16, 17] (fun _ _ wx => ∃ g, wx = plus W2 g)
    case first =>
      as_aux_lemma =>
        cases b
        · go_wp2_with fail
          go_meet
          exact ⟨_, rfl⟩
        · obtain ⟨o, q, hst⟩ : ∃ o q, stepAll v.core 1 1 = (o, q) := ⟨_, _, rfl⟩
          have ho8 := stepAll_len v.core 1 1
          rw [hst] at ho8
          simp only at ho8
          have HST := hid hst
          clear hst
          go_wp2_with fail
          refine (i_StepDay v 1 1 _ ⟨HS.out.grew (by (repeat (first | with_reducible exact grew_refl _ | with_reducible assumption | with_reducible refine grew_split ?_ | with_reducible refine grew_mk ?_ | with_reducible refine grew_plus ?_ | with_reducible refine grew_alloc ?_ | with_reducible refine grew_drew ?_ | (with_reducible refine grew_set ?_ (by first | exact Nat.le_refl _ | omega | (simp [go_sem]; done) | (simp [go_sem]; omega)))))), (by unfold maxLen; omega)⟩).mono ?_
          rw [HST.out]
          rintro e w' ⟨⟨A1, c1, rfl, hO1⟩, g1, rfl⟩
          (try rw [plus_plus] at hO1)
          have O1 := hid hO1.sl
          clear hO1
          cases q
          · go_wp2_with fail
            go_meet
            exact (by (repeat (first | with_reducible exact grew_refl _ | with_reducible assumption | with_reducible refine grew_split ?_ | with_reducible refine grew_mk ?_ | with_reducible refine grew_plus ?_ | with_reducible refine grew_alloc ?_ | with_reducible refine grew_drew ?_ | (with_reducible refine grew_set ?_ (by first | exact Nat.le_refl _ | omega | (simp [go_sem]; done) | (simp [go_sem]; omega))))))
          · obtain ⟨hok, l1, l2, l3⟩ := HWL.out o HST.out
            obtain ⟨lf2, hlf2, lg0, lg1⟩ := left_facts o
            obtain ⟨mo2, hmo2, mp0, mp1⟩ := most_facts o
            rw [hlf2] at l1 l2
            rw [hmo2] at l3
            rw [hok] at hlf2 hmo2
            simp only at l1 l2 l3
            have HLF2 := hid hlf2
            have HMO2 := hid hmo2
            clear hlf2 hmo2 hok
            go_wp2_with fail
            refine (i_SurveyMinutesLeft ⟨o, A1, c1⟩ _ ⟨O1.out.grew (by (repeat (first | with_reducible exact grew_refl _ | with_reducible assumption | with_reducible refine grew_split ?_ | with_reducible refine grew_mk ?_ | with_reducible refine grew_plus ?_ | with_reducible refine grew_alloc ?_ | with_reducible refine grew_drew ?_ | (with_reducible refine grew_set ?_ (by first | exact Nat.le_refl _ | omega | (simp [go_sem]; done) | (simp [go_sem]; omega)))))), by simp only; unfold maxLen; omega⟩).mono ?_
            rw [HLF2.out]
            (rintro e w' ⟨rfl, gx, rfl⟩)
            go_wp2_with fail
            refine (i_MostLines ⟨o, A1, c1⟩ _ ⟨O1.out.grew (by (repeat (first | with_reducible exact grew_refl _ | with_reducible assumption | with_reducible refine grew_split ?_ | with_reducible refine grew_mk ?_ | with_reducible refine grew_plus ?_ | with_reducible refine grew_alloc ?_ | with_reducible refine grew_drew ?_ | (with_reducible refine grew_set ?_ (by first | exact Nat.le_refl _ | omega | (simp [go_sem]; done) | (simp [go_sem]; omega)))))), by simp only; unfold maxLen; omega⟩).mono ?_
            rw [HMO2.out]
            (rintro e w' ⟨rfl, gx, rfl⟩)
            go_wp2_with fail
            go_meet
            exact (by (repeat (first | with_reducible exact grew_refl _ | with_reducible assumption | with_reducible refine grew_split ?_ | with_reducible refine grew_mk ?_ | with_reducible refine grew_plus ?_ | with_reducible refine grew_alloc ?_ | with_reducible refine grew_drew ?_ | (with_reducible refine grew_set ?_ (by first | exact Nat.le_refl _ | omega | (simp [go_sem]; done) | (simp [go_sem]; omega))))))
    case rest =>
      obtain ⟨g4, rfl⟩ := hcut
      go_upto_region 23 with fail
      refine opq_wp (fun W3 => Code0 W3 A bs ∧ Tab W3 ∧ ∃ g, W3 = plus w g) ⟨HC.out.grewE (by have hg := HG2.out; (repeat (first | with_reducible exact grew_refl _ | with_reducible assumption | with_reducible refine grew_split ?_ | with_reducible refine grew_mk ?_ | with_reducible refine grew_plus ?_ | with_reducible refine grew_alloc ?_ | with_reducible refine grew_drew ?_ | (with_reducible refine grew_set ?_ (by first | exact Nat.le_refl _ | omega | (simp [go_sem]; done) | (simp [go_sem]; omega)))))), HT.out.grew (by have hg := HG2.out; (repeat (first | with_reducible exact grew_refl _ | with_reducible assumption | with_reducible refine grew_split ?_ | with_reducible refine grew_mk ?_ | with_reducible refine grew_plus ?_ | with_reducible refine grew_alloc ?_ | with_reducible refine grew_drew ?_ | (with_reducible refine grew_set ?_ (by first | exact Nat.le_refl _ | omega | (simp [go_sem]; done) | (simp [go_sem]; omega)))))), by have hg := HG2.out; (repeat (first | with_reducible exact grew_refl _ | with_reducible assumption | with_reducible refine grew_split ?_ | with_reducible refine grew_mk ?_ | with_reducible refine grew_plus ?_ | with_reducible refine grew_alloc ?_ | with_reducible refine grew_drew ?_ | (with_reducible refine grew_set ?_ (by first | exact Nat.le_refl _ | omega | (simp [go_sem]; done) | (simp [go_sem]; omega)))))⟩ ?_
      clear hd0 hd1 hd2 hd3 hd4 hd5 hd6 hbl HS HG2 HLF HMO HMT HWL lf0 lf1 mo0 mo1 z1 e1 e2 e3 hl8
      rintro W3 ⟨hC3, hT3, hg3⟩
      have HC3 := hid hC3
      have HT3 := hid hT3
      have HG3 := hid hg3
      clear hC3 hT3 hg3
      go_wp2_with fail
      refine (s_DrawCastIsGood A c bs _ HC3.out).mono ?_
      rintro e W4 ⟨⟨v2, rfl, hl2, hO⟩, hg4⟩
      have HT4 := hid (HT3.out.grew hg4)
      have HC4 := hid (HC3.out.grewE hg4)
      have HG4 := hid (grew_two' HG3.out hg4)
      have HV2 := hid (DayV.At.mk (v := v2) hO.sl (by unfold maxLen; omega))
      clear hO hg4 HC3 HT3 HG3
      obtain ⟨gd, kn, hcf⟩ : ∃ gd kn, castF v2.core = (gd, kn) := ⟨_, _, rfl⟩
      have HCF := hid hcf
      have e4 : (gd != gd) = false := by simp
      have e5 : (kn != kn) = false := by simp
      clear hcf
      go_wp2_with fail
      refine (i_CastIsGood v2 _ (HV2.out.grew (by (repeat (first | with_reducible exact grew_refl _ | with_reducible assumption | with_reducible refine grew_split ?_ | with_reducible refine grew_mk ?_ | with_reducible refine grew_plus ?_ | with_reducible refine grew_alloc ?_ | with_reducible refine grew_drew ?_ | (with_reducible refine grew_set ?_ (by first | exact Nat.le_refl _ | omega | (simp [go_sem]; done) | (simp [go_sem]; omega)))))))).mono ?_
      rw [HCF.out]
      (rintro e w' ⟨rfl, gx, rfl⟩)
      go_wp2_with fail
      refine (s_CastIsGood v2 _ (HV2.out.grew (by (repeat (first | with_reducible exact grew_refl _ | with_reducible assumption | with_reducible refine grew_split ?_ | with_reducible refine grew_mk ?_ | with_reducible refine grew_plus ?_ | with_reducible refine grew_alloc ?_ | with_reducible refine grew_drew ?_ | (with_reducible refine grew_set ?_ (by first | exact Nat.le_refl _ | omega | (simp [go_sem]; done) | (simp [go_sem]; omega)))))))).mono ?_
      rw [HCF.out]
      (rintro e w' ⟨rfl, gx, rfl⟩)
      go_wp2_with fail
      refine (s_DrawDayText A c bs _ (HC4.out.grewE (by (repeat (first | with_reducible exact grew_refl _ | with_reducible assumption | with_reducible refine grew_split ?_ | with_reducible refine grew_mk ?_ | with_reducible refine grew_plus ?_ | with_reducible refine grew_alloc ?_ | with_reducible refine grew_drew ?_ | (with_reducible refine grew_set ?_ (by first | exact Nat.le_refl _ | omega | (simp [go_sem]; done) | (simp [go_sem]; omega)))))))).mono ?_
      rintro e W5 ⟨⟨v3, rfl, hl3, hO⟩, hg5⟩
      have HT5 := hid (HT4.out.grew (grew_two' (by (repeat (first | with_reducible exact grew_refl _ | with_reducible assumption | with_reducible refine grew_split ?_ | with_reducible refine grew_mk ?_ | with_reducible refine grew_plus ?_ | with_reducible refine grew_alloc ?_ | with_reducible refine grew_drew ?_ | (with_reducible refine grew_set ?_ (by first | exact Nat.le_refl _ | omega | (simp [go_sem]; done) | (simp [go_sem]; omega)))))) hg5))
      have HG5 := hid (grew_two' (grew_two' HG4.out (by (repeat (first | with_reducible exact grew_refl _ | with_reducible assumption | with_reducible refine grew_split ?_ | with_reducible refine grew_mk ?_ | with_reducible refine grew_plus ?_ | with_reducible refine grew_alloc ?_ | with_reducible refine grew_drew ?_ | (with_reducible refine grew_set ?_ (by first | exact Nat.le_refl _ | omega | (simp [go_sem]; done) | (simp [go_sem]; omega))))))) hg5)
      have HV3 := hid (DayV.At.mk (v := v3) hO.sl (by unfold maxLen; omega))
      clear hO hg5 HC4 HT4 HG4
      obtain ⟨tx, so, htf⟩ : ∃ tx so, textF v3.core = (tx, so) := ⟨_, _, rfl⟩
      have HTF := hid htf
      have e6 : (tx.toList == tx.toList) = true := by simp
      have e7 : (so == so) = true := by simp
      clear htf
      go_wp2_with fail
      refine (i_SurveyDayText v3 _ (HV3.out.grew (by (repeat (first | with_reducible exact grew_refl _ | with_reducible assumption | with_reducible refine grew_split ?_ | with_reducible refine grew_mk ?_ | with_reducible refine grew_plus ?_ | with_reducible refine grew_alloc ?_ | with_reducible refine grew_drew ?_ | (with_reducible refine grew_set ?_ (by first | exact Nat.le_refl _ | omega | (simp [go_sem]; done) | (simp [go_sem]; omega))))))) (HT5.out.grew (by (repeat (first | with_reducible exact grew_refl _ | with_reducible assumption | with_reducible refine grew_split ?_ | with_reducible refine grew_mk ?_ | with_reducible refine grew_plus ?_ | with_reducible refine grew_alloc ?_ | with_reducible refine grew_drew ?_ | (with_reducible refine grew_set ?_ (by first | exact Nat.le_refl _ | omega | (simp [go_sem]; done) | (simp [go_sem]; omega)))))))).mono ?_
      rw [HTF.out]
      (rintro e w' ⟨rfl, gx, rfl⟩)
      go_wp2_with fail
      refine (s_SurveyDayText v3 _ (HV3.out.grew (by (repeat (first | with_reducible exact grew_refl _ | with_reducible assumption | with_reducible refine grew_split ?_ | with_reducible refine grew_mk ?_ | with_reducible refine grew_plus ?_ | with_reducible refine grew_alloc ?_ | with_reducible refine grew_drew ?_ | (with_reducible refine grew_set ?_ (by first | exact Nat.le_refl _ | omega | (simp [go_sem]; done) | (simp [go_sem]; omega)))))))).mono ?_
      rw [HTF.out]
      (rintro e w' ⟨rfl, gx, rfl⟩)
      go_wp2_with fail
      go_ret
      have h := HG5.out
      exact ⟨rfl, by (repeat (first | with_reducible exact grew_refl _ | with_reducible assumption | with_reducible refine grew_split ?_ | with_reducible refine grew_mk ?_ | with_reducible refine grew_plus ?_ | with_reducible refine grew_alloc ?_ | with_reducible refine grew_drew ?_ | (with_reducible refine grew_set ?_ (by first | exact Nat.le_refl _ | omega | (simp [go_sem]; done) | (simp [go_sem]; omega)))))⟩
theorem fnToDo_met (os : Os) : laidMet Tryd.prog Rows.fnToDoRow.laid ((laidWorld os).forCall (fun _ _ => 0) ⟨#[], #[.slice none 0 0], []⟩).memory :=
  laidMet_of_run' 8 (by kernel_rfl) (by kernel_rfl)
theorem fnToDo_reads (os : Os) {H : Type} (enc : TypeId × Value → H) : ∃ places, DataW.whole enc Tryd.prog ((laidWorld os).forCall (fun _ _ => 0) ⟨#[], #[.slice none 0 0], []⟩).memory Tryd.f3.params.toList Rows.fnToDoSpec.vars false (#[.slice none 0 0] : Array Value).toList 8 = some ([.nil], [], places) :=
  ⟨[], by kernel_rfl⟩
set_option maxRecDepth 100000 in
theorem fnToDo_contract (H : Type) (enc : TypeId × Value → H) (W : World) (base : Nat) (args : Array Value) (ds gs : List (DataW H)) (before : List MemPlace)
    (hval0 : ∀ (j : Nat) t v, Tryd.f3.params[j]? = some t → args[j]? = some v → Value.okWide Tryd.prog W .any base t v)
    (hW : DataW.Whole enc Tryd.prog Tryd.f3.params.toList Rows.fnToDoSpec.vars false W args.toList ds gs before) (hL : laidMetH Tryd.prog Rows.fnToDoRow.laid W) (_hsh : W.ShapedOpen Tryd.prog) :
    Calls Tryd.prog 3 args W fun e W' => ∃ v, e = .returned v ∧ Rows.fnToDoSpec.post enc Tryd.prog Tryd.f3 false true false false W args v W' := by
  have hT : Tab W := tab_of hL
  have hval := hval0
  have hW' := hW
  obtain ⟨p, q, hA0, hV, rfl, hfz, hnd⟩ := hW
  have hA : DataW.TrodAll enc Tryd.prog W 0 (fun _ => true) true Tryd.f3.params.toList args.toList ds p := hA0
  rw [Tryd.params3] at hA hval
  obtain ⟨v0, vs0, d0, ds0, p0, q0, hargs, rfl, rfl, h0, r0⟩ := trodAll_cons hA
  obtain ⟨rfl, rfl, rfl⟩ := trodAll_nil r0
  obtain rfl : args = #[v0] := by cases args; simp_all
  obtain ⟨rfl, rfl⟩ := trodVars_none hV
  have k0 := h0
  have lt0 : ∀ x ∈ p0, x.block < W.heap.size := by obtain ⟨m, hm⟩ := k0; exact DataW.trod_lt m _ _ _ hm
  obtain ⟨A, c, l, rfl, hS, hb, hl⟩ := open_code (hval 0 22 v0 rfl rfl) h0
  clear hA0 hval0
  refine (l_FnToDo A c l W hS hb hl hT).mono fun e W' ⟨he, hg⟩ => ?_
  have bel := below_of_grew hg
  subst he
  exact ⟨_, rfl, _, _, _, [], _, [], hW', trodAll_mk1 (shut_bool Tryd.underlying4 _), (trodAll_cons_mk (Below.trod laid_out (by kernel_rfl) (of_decide_eq_true (by kernel_rfl)) k0 bel lt0) trodAll_mk0), rfl, bel.frame _, fun h => by cases h⟩
set_option maxRecDepth 100000 in
theorem fnToDo_lifted (os : Os) (started : os.Started) (H : Type) (enc : TypeId × Value → H) (F : Stop.Interp) :
    ReturnsInHanded {} Tryd.checked os 3 .any ((OpenSpec.ofChange Rows.fnToDoSpec).preRow enc Tryd.prog Tryd.f3 Rows.fnToDoRow.domain false Rows.fnToDoRow.laid) (((OpenSpec.ofChange Rows.fnToDoSpec).at F).post enc Tryd.prog Tryd.f3 false true false false) := by
  obtain ⟨places, hx⟩ := fnToDo_reads os enc
  refine returnsInHanded_of_row (C := Tryd.checked) (s := OpenSpec.ofChange Rows.fnToDoSpec) own_knob started (by kernel_rfl) Tryd.func3
    (witness_row_at (enc := enc) (C := Tryd.checked) false (laidWorld os) #[.slice none 0 0] rfl (by kernel_rfl) (by kernel_rfl) (by kernel_rfl)
      (OpenSpec.preRow_of_cond 8 hx (by kernel_rfl) (fun k hk => by cases hk) (by kernel_rfl) (fnToDo_met os))) ?_
  intro W base args ds gs before hval hW _ _ _ hL hsh _
  exact fnToDo_contract H enc W base args ds gs before hval hW hL hsh
theorem fnToDo_said : Rows.FnToDoSaid :=
  OpenClaim.holds_of_cond 3 Tryd.f3 rfl rfl rfl rfl rfl rfl rfl ⟨rfl, rfl, rfl, rfl, rfl⟩ rfl rfl rfl rfl rfl (by kernel_rfl) Tryd.func3 (by kernel_rfl)
    (of_decide_eq_true (by kernel_rfl)) (by unfold Func.isWrapper; first | (rw [if_pos (by decide +kernel)]; kernel_rfl) | (rw [if_neg (by decide +kernel)]; exact ⟨rfl, rfl⟩))
    (fun os started H enc _ F => by rw [OpenClaim.pre_eq_preRow]; exact fnToDo_lifted os started H enc F)
theorem fnToDo_plain (f : FuncId) (fn : Func) (hf : Tryd.pinned.checked.prog.funcNamed Rows.fnToDoRow.func = some f) (hfn : Tryd.pinned.checked.prog.funcs[f]? = some fn) :
    ∀ (j : Nat) t, fn.params[j]? = some t → Tryd.pinned.checked.prog.wantsStandIn t = false := by
  obtain rfl : f = 3 := Option.some.inj ((show Tryd.prog.funcNamed Rows.fnToDoRow.func = some 3 by kernel_rfl).symm.trans hf) |>.symm
  obtain rfl : fn = Tryd.f3 := (Option.some.inj (Tryd.func3.symm.trans hfn)).symm
  intro j t ht
  have h : ∀ t ∈ Tryd.f3.params.toList, Tryd.prog.wantsStandIn t = false := by rw [Tryd.params3]; intro t ht; simp at ht; rcases ht with rfl <;> kernel_rfl
  exact h t (by simpa using Array.mem_of_getElem? ht)
theorem fnToDo_holds : Rows.FnToDoCardSaid :=
  Claim7.holds_tied_plain_at .later [] _ _ _ _ fnToDo_said (fun _ h => by cases h) (by kernel_rfl) (fun _ h => by cases h) fnToDo_row_tie rfl ⟨rfl, rfl⟩ (by kernel_rfl) rfl (fun f fn hf hfn => ⟨by kernel_rfl, fnToDo_plain f fn hf hfn⟩) (by kernel_rfl)
end Go.Proofs.YtcljcbbkbepmjaaDoor
