/- The law FnAreas: areas are done or in the order of work, a merged area has the cells of both, and a report has a line for each area. No condition beyond the row's own: the tables that strconv reads hold what they hold at the start. -/
import Derived.Test.YteogidghoohgaaaDoorDoor
import Derived.Test.YteogidghoohgaaaDoorDx
import Derived.Test.YteogidghoohgaaaDoorAy
import Derived.Test.YteogidghoohgaaaDoorMe
import Derived.Test.YteogidghoohgaaaDoorSh
import Derived.Test.YteogidghoohgaaaDoorRp
import Derived.Test.YteogidghoohgaaaDoorOpenCode
namespace Go.Proofs.YteogidghoohgaaaDoor
open Go.ChangeShapes Go.WideShapes Go.ChangeAt Go.RowKit Go.Deep Go.Joins
open Go.ChangeMaps (open_string shut_string)

theorem namesF_snd (ch : AreaR → Bool) (gt : AreaR → AreaR → Bool) (l : List AreaR) : (namesF ch gt l).2 = areasB l := by
  cases h : areasB l
  · rw [namesF_bad h]
  · rw [namesF_good h]
theorem namesF_pair (ch : AreaR → Bool) (gt : AreaR → AreaR → Bool) (l : List AreaR) : ∃ R, namesF ch gt l = (R, areasB l) ∧ R.length ≤ 10 ∧ (areasB l = true → ∀ k (hk : k < l.length), hasT R l[k].nm = ch l[k]) := by
  refine ⟨(namesF ch gt l).1, by rw [← namesF_snd ch gt l], namesF_len, fun h k hk => ?_⟩
  rw [namesF_good h]
  exact ordF_has h hk
theorem undone_ne (r : AreaR) : (undone r == doneR r) = false := by
  unfold undone
  cases doneR r <;> rfl
theorem areaF_snd (r : AreaR) : (areaF r).2 = r.ok := by
  unfold areaF
  split <;> simp_all
theorem reportF_snd (l : List AreaR) : (reportF l).2 = areasB l := by
  unfold reportF
  split <;> simp_all
theorem reportF_pair (l : List AreaR) : ∃ T, reportF l = (T, areasB l) ∧ T.size ≤ 4000 ∧ (areasB l = true → nls T = l.length) := by
  cases h : areasB l
  · exact ⟨⟨#[]⟩, by simp [reportF, h], by decide, fun e => by cases e⟩
  · refine ⟨reportT l, by simp [reportF, h], ?_, fun _ => reportT_nls h⟩
    have h10 := areasB_len h
    have h1 := linesT_size (fun k hk => areasB_ok h hk) l.length (Nat.le_refl _)
    have h2 := doneN_le l l.length
    have h3 := num_size (doneN l l.length : Int) (by omega) (by omega)
    have h4 := num_size (l.length : Int) (by omega) (by omega)
    have e1 : (bsA [100, 111, 110, 101, 58, 32]).size = 6 := rfl
    have e2 : (bsA [32, 111, 102, 32]).size = 4 := rfl
    simp only [reportT, ByteArray.size_append, e1, e2]
    omega
theorem mergeF_len10 {l : List AreaR} {a b : ByteArray} {R : List AreaR} {o : Bool} (h : mergeF l a b = (R, o)) : R.length ≤ 10 ∧ ((∀ r ∈ l, r.nm.size ≤ 20) → ∀ r ∈ R, r.nm.size ≤ 20) := by
  unfold mergeF at h
  split at h
  · split at h
    · rename_i x y hx hy
      split at h
      · cases h; simp
      · split at h
        · rename_i hg
          cases h
          refine ⟨areasB_len hg, fun hs r hr => ?_⟩
          obtain ⟨hi, rfl⟩ := List.getElem?_eq_some_iff.1 hx
          have hr2 : r ∈ l.set (findI l a).toNat (bothR l[(findI l a).toNat] y) := by
            rcases List.mem_append.1 hr with h | h
            · exact List.mem_of_mem_take h
            · exact List.mem_of_mem_drop h
          rcases List.mem_or_eq_of_mem_set hr2 with h1 | rfl
          · exact hs r h1
          · exact (show l[(findI l a).toNat].nm.size ≤ 20 from hs _ (List.getElem_mem hi))
        · cases h; simp
    · cases h; simp
  · cases h; simp
set_option maxHeartbeats 1000000 in
theorem l_rAreas (l : List AreaR) (A B : Option Addr) (c d : Nat) (w : World) (hA : Sl w 6 AreaR.row A l) (hB : Sl w 6 AreaR.row B l) (hl : l.length ≤ maxLen) :
    Calls Tryd.prog 22 #[.slice A l.length c, .slice B l.length d] w fun e' w' => e' = .returned (.bool true) ∧ ∃ g, w' = plus w g := by
  unfold maxLen at hl
  go_enter Tryd.func22, Tryd.ntmps22
  go_wp2_with fail
  go_loopw [5] (fun i wr => ∃ k : Nat, k ≤ l.length ∧ i = .int .i64 k ∧ (∃ g, wr = plus w g)) (fun i _ => l.length - (intOf i).toNat)
  case atStart => exact ⟨0, Nat.zero_le _, rfl, _, plus_refl _⟩
  case round =>
    obtain ⟨k, hk, rfl, g, rfl⟩ := hrel
    by_cases hlt : k < l.length
    · obtain ⟨b, off, rfl, hb, hc⟩ := hA.at_ hlt
      obtain ⟨b', off', rfl, hb', hc'⟩ := hB.at_ hlt
      obtain ⟨hc0, hc1, hc2, hc3, hc4, hc5⟩ := AreaR.cells6 hc hlt
      obtain ⟨hd0, hd1, hd2, hd3, hd4, hd5⟩ := AreaR.cells6 hc' hlt
      have t0 : (l[k].nm.toList == l[k].nm.toList) = true := by simp
      clear hc hA hc' hB
      go_wp2_with fail
      (refine wp_region_calm (by kernel_rfl) (by kernel_rfl) ?_; (repeat' (first | go_big_quiet_step (fail) | (refine wpQuiet_step (fun K hK => ?_); go_simp; go_ite <;> go_simp <;> (first | (refine hK _ ?_; clear hK K) | (apply Exists.intro; refine ⟨fun _ => ?_, hK _ ?_⟩; (fail); clear hK K))))); all_goals (refine wpQuiet_nil ?_; intro _ hw'; obtain ⟨gq, hw''⟩ := hw'; subst hw''))
      go_wp2
      go_roundw
      case rel => exact ⟨k + 1, by omega, by go_num, by (repeat (first | with_reducible exact grew_refl _ | with_reducible assumption | with_reducible refine grew_split ?_ | with_reducible refine grew_mk ?_ | with_reducible refine grew_plus ?_ | with_reducible refine grew_alloc ?_ | with_reducible refine grew_drew ?_ | (with_reducible refine grew_set ?_ (by first | exact Nat.le_refl _ | omega | (simp [go_sem]; done) | (simp [go_sem]; omega)))))⟩
      case measure => simp [intOf]; omega
    · go_wp2
      go_ret
      exact ⟨rfl, by (repeat (first | with_reducible exact grew_refl _ | with_reducible assumption | with_reducible refine grew_split ?_ | with_reducible refine grew_mk ?_ | with_reducible refine grew_plus ?_ | with_reducible refine grew_alloc ?_ | with_reducible refine grew_drew ?_ | (with_reducible refine grew_set ?_ (by first | exact Nat.le_refl _ | omega | (simp [go_sem]; done) | (simp [go_sem]; omega)))))⟩
set_option maxHeartbeats 8000000 in
set_option maxRecDepth 100000 in
theorem l_FnAreas (A : Option Addr) (c : Nat) (bs : List Int) (w : World) (hA : Sl w 1 byteRow A bs) (hb : ∀ x ∈ bs, 0 ≤ x ∧ x ≤ 255) (_hl : bs.length ≤ maxLen) (hT : Tab w) :
    Calls Tryd.prog 4 #[.slice A bs.length c] w fun e' w' => e' = .returned (.bool true) ∧ ∃ g, w' = plus w g := by
  have HA := hid hA
  have HB := hid hb
  have HT := hid hT
  clear hA hb hT
  by_cases hbig : (65536 : Int) < (bs.length : Int)
  · go_enter Tryd.func4, Tryd.ntmps4
    go_wp2_with (go_at_call 10; refine (l_rBig _ _ _ _).mono ?_; (rintro e w' ⟨rfl, rfl⟩))
    go_ret
    exact ⟨rfl, by (repeat (first | with_reducible exact grew_refl _ | with_reducible assumption | with_reducible refine grew_split ?_ | with_reducible refine grew_mk ?_ | with_reducible refine grew_plus ?_ | with_reducible refine grew_alloc ?_ | with_reducible refine grew_drew ?_ | (with_reducible refine grew_set ?_ (by first | exact Nat.le_refl _ | omega | (simp [go_sem]; done) | (simp [go_sem]; omega)))))⟩
  have HC := hid (show Code0 w A bs from ⟨HA.out, HB.out, by omega⟩)
  go_enter Tryd.func4, Tryd.ntmps4
  go_wp2_with (go_at_call 10; refine (l_rBig _ _ _ _).mono ?_; (rintro e w' ⟨rfl, rfl⟩))
  refine (s_DrawWork A c bs _ HC.out).mono ?_
  rintro e W1 ⟨⟨B, d, L, rfl, hO, hl12, hs⟩, hg⟩
  have HL := hid hO.sl
  have HS := hid (fun r hr => Nat.le_trans (hs r hr) (show 20 ≤ maxLen by unfold maxLen; omega))
  have HG := hid hg
  clear hO hs hg
  have hlm : L.length ≤ maxLen := by unfold maxLen; omega
  obtain ⟨R1, hR1, hl1, hh1⟩ := namesF_pair undone gtWo L
  obtain ⟨R2, hR2, hl2, hh2⟩ := namesF_pair doneR gtNo L
  obtain ⟨o, ho⟩ : ∃ o, areasB L = o := ⟨_, rfl⟩
  rw [ho] at hR1 hR2 hh1 hh2
  have t2 : (o != o) = false := by simp
  have HR1 := hid hR1
  have HR2 := hid hR2
  have HH1 := hid hh1
  have HH2 := hid hh2
  have HO := hid ho
  clear hR1 hR2 hh1 hh2 ho
  go_wp2_with fail
  refine (i_WorkOrder L B d _ HL.out HS.out hlm).mono ?_
  rw [HR1.out]
  rintro e w' ⟨⟨A1, d1, rfl, hO1⟩, g1, rfl⟩
  have O1 := hid hO1.sl
  clear hO1
  go_wp2_with fail
  refine (s_WorkOrder L B d _ (HL.out.grew (by (repeat (first | with_reducible exact grew_refl _ | with_reducible assumption | with_reducible refine grew_split ?_ | with_reducible refine grew_mk ?_ | with_reducible refine grew_plus ?_ | with_reducible refine grew_alloc ?_ | with_reducible refine grew_drew ?_ | (with_reducible refine grew_set ?_ (by first | exact Nat.le_refl _ | omega | (simp [go_sem]; done) | (simp [go_sem]; omega))))))) HS.out hlm).mono ?_
  rw [HR1.out]
  rintro e w' ⟨⟨A2, d2, rfl, hO2⟩, g2, rfl⟩
  (try rw [plus_plus] at hO2)
  have O2 := hid hO2.sl
  clear hO2
  go_wp2_with fail
  refine (l_rTexts R1 A1 A2 d1 d2 _ (O1.out.grew (by (repeat (first | with_reducible exact grew_refl _ | with_reducible assumption | with_reducible refine grew_split ?_ | with_reducible refine grew_mk ?_ | with_reducible refine grew_plus ?_ | with_reducible refine grew_alloc ?_ | with_reducible refine grew_drew ?_ | (with_reducible refine grew_set ?_ (by first | exact Nat.le_refl _ | omega | (simp [go_sem]; done) | (simp [go_sem]; omega))))))) (O2.out.grew (by (repeat (first | with_reducible exact grew_refl _ | with_reducible assumption | with_reducible refine grew_split ?_ | with_reducible refine grew_mk ?_ | with_reducible refine grew_plus ?_ | with_reducible refine grew_alloc ?_ | with_reducible refine grew_drew ?_ | (with_reducible refine grew_set ?_ (by first | exact Nat.le_refl _ | omega | (simp [go_sem]; done) | (simp [go_sem]; omega))))))) (by unfold maxLen; omega)).mono ?_
  (rintro e w' ⟨rfl, gx, rfl⟩)
  go_wp2_with fail
  refine (i_DoneAreas L B d _ (HL.out.grew (by (repeat (first | with_reducible exact grew_refl _ | with_reducible assumption | with_reducible refine grew_split ?_ | with_reducible refine grew_mk ?_ | with_reducible refine grew_plus ?_ | with_reducible refine grew_alloc ?_ | with_reducible refine grew_drew ?_ | (with_reducible refine grew_set ?_ (by first | exact Nat.le_refl _ | omega | (simp [go_sem]; done) | (simp [go_sem]; omega))))))) HS.out hlm).mono ?_
  rw [HR2.out]
  rintro e w' ⟨⟨A3, d3, rfl, hO3⟩, g3, rfl⟩
  (try rw [plus_plus] at hO3)
  have O3 := hid hO3.sl
  clear hO3
  go_wp2_with fail
  refine (s_DoneAreas L B d _ (HL.out.grew (by (repeat (first | with_reducible exact grew_refl _ | with_reducible assumption | with_reducible refine grew_split ?_ | with_reducible refine grew_mk ?_ | with_reducible refine grew_plus ?_ | with_reducible refine grew_alloc ?_ | with_reducible refine grew_drew ?_ | (with_reducible refine grew_set ?_ (by first | exact Nat.le_refl _ | omega | (simp [go_sem]; done) | (simp [go_sem]; omega))))))) HS.out hlm).mono ?_
  rw [HR2.out]
  rintro e w' ⟨⟨A4, d4, rfl, hO4⟩, g4, rfl⟩
  (try rw [plus_plus] at hO4)
  have O4 := hid hO4.sl
  clear hO4
  go_wp2_with fail
  refine (l_rTexts R2 A3 A4 d3 d4 _ (O3.out.grew (by (repeat (first | with_reducible exact grew_refl _ | with_reducible assumption | with_reducible refine grew_split ?_ | with_reducible refine grew_mk ?_ | with_reducible refine grew_plus ?_ | with_reducible refine grew_alloc ?_ | with_reducible refine grew_drew ?_ | (with_reducible refine grew_set ?_ (by first | exact Nat.le_refl _ | omega | (simp [go_sem]; done) | (simp [go_sem]; omega))))))) (O4.out.grew (by (repeat (first | with_reducible exact grew_refl _ | with_reducible assumption | with_reducible refine grew_split ?_ | with_reducible refine grew_mk ?_ | with_reducible refine grew_plus ?_ | with_reducible refine grew_alloc ?_ | with_reducible refine grew_drew ?_ | (with_reducible refine grew_set ?_ (by first | exact Nat.le_refl _ | omega | (simp [go_sem]; done) | (simp [go_sem]; omega))))))) (by unfold maxLen; omega)).mono ?_
  (rintro e w' ⟨rfl, gx, rfl⟩)
  go_wp2_with fail
  refine (i_AreAreaRows L B d _ HO.out _ (HL.out.grew (by (repeat (first | with_reducible exact grew_refl _ | with_reducible assumption | with_reducible refine grew_split ?_ | with_reducible refine grew_mk ?_ | with_reducible refine grew_plus ?_ | with_reducible refine grew_alloc ?_ | with_reducible refine grew_drew ?_ | (with_reducible refine grew_set ?_ (by first | exact Nat.le_refl _ | omega | (simp [go_sem]; done) | (simp [go_sem]; omega))))))) HS.out hlm).mono ?_
  (rintro e w' ⟨rfl, gx, rfl⟩)
  go_upto_block 0 with fail
  refine opq_wp (fun W2 => Sl W2 1 strRow A1 R1 ∧ Sl W2 1 strRow A3 R2 ∧ Sl W2 6 AreaR.row B L ∧ ∃ g, W2 = plus w g) ⟨O1.out.grew (by (repeat (first | with_reducible exact grew_refl _ | with_reducible assumption | with_reducible refine grew_split ?_ | with_reducible refine grew_mk ?_ | with_reducible refine grew_plus ?_ | with_reducible refine grew_alloc ?_ | with_reducible refine grew_drew ?_ | (with_reducible refine grew_set ?_ (by first | exact Nat.le_refl _ | omega | (simp [go_sem]; done) | (simp [go_sem]; omega)))))), O3.out.grew (by (repeat (first | with_reducible exact grew_refl _ | with_reducible assumption | with_reducible refine grew_split ?_ | with_reducible refine grew_mk ?_ | with_reducible refine grew_plus ?_ | with_reducible refine grew_alloc ?_ | with_reducible refine grew_drew ?_ | (with_reducible refine grew_set ?_ (by first | exact Nat.le_refl _ | omega | (simp [go_sem]; done) | (simp [go_sem]; omega)))))), HL.out.grew (by (repeat (first | with_reducible exact grew_refl _ | with_reducible assumption | with_reducible refine grew_split ?_ | with_reducible refine grew_mk ?_ | with_reducible refine grew_plus ?_ | with_reducible refine grew_alloc ?_ | with_reducible refine grew_drew ?_ | (with_reducible refine grew_set ?_ (by first | exact Nat.le_refl _ | omega | (simp [go_sem]; done) | (simp [go_sem]; omega)))))), by have hg := HG.out; (repeat (first | with_reducible exact grew_refl _ | with_reducible assumption | with_reducible refine grew_split ?_ | with_reducible refine grew_mk ?_ | with_reducible refine grew_plus ?_ | with_reducible refine grew_alloc ?_ | with_reducible refine grew_drew ?_ | (with_reducible refine grew_set ?_ (by first | exact Nat.le_refl _ | omega | (simp [go_sem]; done) | (simp [go_sem]; omega)))))⟩ ?_
  rintro W2 ⟨hO1, hO3, hL2, hg2⟩
  have O1 := hid hO1
  have O3 := hid hO3
  have HL := hid hL2
  have HG := hid hg2
  clear hO1 hO3 hL2 hg2 O2 O4
  go_cut [12] (fun _ wx => ∃ g, wx = plus W2 g)
  case first =>
    go_wp2_with fail
    go_loopw [12] (fun i wr => ∃ k : Nat, k ≤ L.length ∧ i = .int .i64 k ∧ ∃ g, wr = plus W2 g) (fun i _ => L.length - (intOf i).toNat)
    case atStart => exact ⟨0, Nat.zero_le _, rfl, by (repeat (first | with_reducible exact grew_refl _ | with_reducible assumption | with_reducible refine grew_split ?_ | with_reducible refine grew_mk ?_ | with_reducible refine grew_plus ?_ | with_reducible refine grew_alloc ?_ | with_reducible refine grew_drew ?_ | (with_reducible refine grew_set ?_ (by first | exact Nat.le_refl _ | omega | (simp [go_sem]; done) | (simp [go_sem]; omega)))))⟩
    case round =>
      obtain ⟨k, hk, rfl, gq, rfl⟩ := hrel
      cases o
      · by_cases hlt : k < L.length
        · go_wp2_with fail
          go_meet
          exact ⟨_, rfl⟩
        · go_wp2_with fail
          go_meet
          exact ⟨_, rfl⟩
      · by_cases hlt : k < L.length
        · obtain ⟨b0, off, rfl, hb0, hc⟩ := HL.out.at_ hlt
          obtain ⟨hc0, hc1, hc2, hc3, hc4, hc5⟩ := AreaR.cells6 hc hlt
          have hq1 := HH1.out rfl k hlt
          have hq2 := HH2.out rfl k hlt
          have hun := undone_ne L[k]
          generalize hr : L[k] = r at hc0 hc1 hc2 hc3 hc4 hc5 hq1 hq2 hun
          have HQ1 := hid hq1
          have HQ2 := hid hq2
          have hk0 : (0 : Int) ≤ (k : Int) := by omega
          have hk1 : (k : Int) < (L.length : Int) := by omega
          clear hc hr hq1 hq2
          go_wp2_with fail
          (refine wp_region_calm (by kernel_rfl) (by kernel_rfl) ?_; (repeat' (first | go_big_quiet_step ((go_at_call 18; first | with_reducible exact calm_of (l_rHasText R1 r.nm _ HQ1.out A1 d1 _ (O1.out.grew (by (repeat (first | with_reducible exact grew_refl _ | with_reducible assumption | with_reducible refine grew_split ?_ | with_reducible refine grew_mk ?_ | with_reducible refine grew_plus ?_ | with_reducible refine grew_alloc ?_ | with_reducible refine grew_drew ?_ | (with_reducible refine grew_set ?_ (by first | exact Nat.le_refl _ | omega | (simp [go_sem]; done) | (simp [go_sem]; omega))))))) (by unfold maxLen; omega)) | with_reducible exact calm_of (l_rHasText R2 r.nm _ HQ2.out A3 d3 _ (O3.out.grew (by (repeat (first | with_reducible exact grew_refl _ | with_reducible assumption | with_reducible refine grew_split ?_ | with_reducible refine grew_mk ?_ | with_reducible refine grew_plus ?_ | with_reducible refine grew_alloc ?_ | with_reducible refine grew_drew ?_ | (with_reducible refine grew_set ?_ (by first | exact Nat.le_refl _ | omega | (simp [go_sem]; done) | (simp [go_sem]; omega))))))) (by unfold maxLen; omega)) | with_reducible exact calm_add (l_rHasText R1 r.nm _ HQ1.out A1 d1 _ (O1.out.grew (by (repeat (first | with_reducible exact grew_refl _ | with_reducible assumption | with_reducible refine grew_split ?_ | with_reducible refine grew_mk ?_ | with_reducible refine grew_plus ?_ | with_reducible refine grew_alloc ?_ | with_reducible refine grew_drew ?_ | (with_reducible refine grew_set ?_ (by first | exact Nat.le_refl _ | omega | (simp [go_sem]; done) | (simp [go_sem]; omega))))))) (by unfold maxLen; omega)) | with_reducible exact calm_add (l_rHasText R2 r.nm _ HQ2.out A3 d3 _ (O3.out.grew (by (repeat (first | with_reducible exact grew_refl _ | with_reducible assumption | with_reducible refine grew_split ?_ | with_reducible refine grew_mk ?_ | with_reducible refine grew_plus ?_ | with_reducible refine grew_alloc ?_ | with_reducible refine grew_drew ?_ | (with_reducible refine grew_set ?_ (by first | exact Nat.le_refl _ | omega | (simp [go_sem]; done) | (simp [go_sem]; omega))))))) (by unfold maxLen; omega)))) | (refine wpQuiet_step (fun K hK => ?_); go_simp; go_ite <;> go_simp <;> (first | (refine hK _ ?_; clear hK K) | (apply Exists.intro; refine ⟨fun _ => ?_, hK _ ?_⟩; ((go_at_call 18; first | with_reducible exact calm_of (l_rHasText R1 r.nm _ HQ1.out A1 d1 _ (O1.out.grew (by (repeat (first | with_reducible exact grew_refl _ | with_reducible assumption | with_reducible refine grew_split ?_ | with_reducible refine grew_mk ?_ | with_reducible refine grew_plus ?_ | with_reducible refine grew_alloc ?_ | with_reducible refine grew_drew ?_ | (with_reducible refine grew_set ?_ (by first | exact Nat.le_refl _ | omega | (simp [go_sem]; done) | (simp [go_sem]; omega))))))) (by unfold maxLen; omega)) | with_reducible exact calm_of (l_rHasText R2 r.nm _ HQ2.out A3 d3 _ (O3.out.grew (by (repeat (first | with_reducible exact grew_refl _ | with_reducible assumption | with_reducible refine grew_split ?_ | with_reducible refine grew_mk ?_ | with_reducible refine grew_plus ?_ | with_reducible refine grew_alloc ?_ | with_reducible refine grew_drew ?_ | (with_reducible refine grew_set ?_ (by first | exact Nat.le_refl _ | omega | (simp [go_sem]; done) | (simp [go_sem]; omega))))))) (by unfold maxLen; omega)) | with_reducible exact calm_add (l_rHasText R1 r.nm _ HQ1.out A1 d1 _ (O1.out.grew (by (repeat (first | with_reducible exact grew_refl _ | with_reducible assumption | with_reducible refine grew_split ?_ | with_reducible refine grew_mk ?_ | with_reducible refine grew_plus ?_ | with_reducible refine grew_alloc ?_ | with_reducible refine grew_drew ?_ | (with_reducible refine grew_set ?_ (by first | exact Nat.le_refl _ | omega | (simp [go_sem]; done) | (simp [go_sem]; omega))))))) (by unfold maxLen; omega)) | with_reducible exact calm_add (l_rHasText R2 r.nm _ HQ2.out A3 d3 _ (O3.out.grew (by (repeat (first | with_reducible exact grew_refl _ | with_reducible assumption | with_reducible refine grew_split ?_ | with_reducible refine grew_mk ?_ | with_reducible refine grew_plus ?_ | with_reducible refine grew_alloc ?_ | with_reducible refine grew_drew ?_ | (with_reducible refine grew_set ?_ (by first | exact Nat.le_refl _ | omega | (simp [go_sem]; done) | (simp [go_sem]; omega))))))) (by unfold maxLen; omega)))); clear hK K))))); all_goals (refine wpQuiet_nil ?_; intro _ hw'; obtain ⟨gq, hw''⟩ := hw'; subst hw''))
          go_wp2_with fail
          go_roundw
          case rel => exact ⟨k + 1, by omega, by go_num, by (repeat (first | with_reducible exact grew_refl _ | with_reducible assumption | with_reducible refine grew_split ?_ | with_reducible refine grew_mk ?_ | with_reducible refine grew_plus ?_ | with_reducible refine grew_alloc ?_ | with_reducible refine grew_drew ?_ | (with_reducible refine grew_set ?_ (by first | exact Nat.le_refl _ | omega | (simp [go_sem]; done) | (simp [go_sem]; omega)))))⟩
          case measure => simp [intOf]; omega
        · go_wp2_with fail
          go_meet
          exact ⟨_, rfl⟩
  case rest =>
    obtain ⟨gr, rfl⟩ := hcut
    clear O1 O3
    have hg := HG.out
    have HC2 := hid (HC.out.grew1 (show ∃ g, plus W2 gr = plus w g by (repeat (first | with_reducible exact grew_refl _ | with_reducible assumption | with_reducible refine grew_split ?_ | with_reducible refine grew_mk ?_ | with_reducible refine grew_plus ?_ | with_reducible refine grew_alloc ?_ | with_reducible refine grew_drew ?_ | (with_reducible refine grew_set ?_ (by first | exact Nat.le_refl _ | omega | (simp [go_sem]; done) | (simp [go_sem]; omega)))))))
    go_wp2_with fail
    refine (s_DrawMerge A c bs _ HC2.out).mono ?_
    rintro e W3 ⟨⟨B3, d3', L3, na, nb, rfl, hO, hl3, hs3, hna, hnb⟩, hg3⟩
    have HL3 := hid hO.sl
    have HS3 := hid (fun r hr => Nat.le_trans (hs3 r hr) (show 20 ≤ maxLen by unfold maxLen; omega))
    have HG3 := hid hg3
    have hlm3 : L3.length ≤ maxLen := by unfold maxLen; omega
    obtain ⟨R, told, hM⟩ : ∃ R told, mergeF L3 na nb = (R, told) := ⟨_, _, rfl⟩
    obtain ⟨hR10, hRs⟩ := mergeF_len10 hM
    have hRs := hRs hs3
    have HRS := hid (fun r hr => Nat.le_trans (hRs r hr) (show 20 ≤ maxLen by unfold maxLen; omega))
    have HSH := hid (fun e : told = true => merge_share (l := L3) (a := na) (b := nb) (R := R) (by rw [hM, e]))
    have HM := hid hM
    have t4 : (told != told) = false := by simp
    clear hO hs3 hg3 hM hRs
    go_wp2_with fail
    refine (i_MergeAreas L3 B3 d3' na nb _ HL3.out HS3.out hlm3).mono ?_
    rw [HM.out]
    rintro e w' ⟨⟨A5, d5, rfl, hO5⟩, g5, rfl⟩
    have O5 := hid hO5.sl
    clear hO5
    go_wp2_with fail
    refine (s_MergeAreas L3 B3 d3' na nb _ (HL3.out.grew (by (repeat (first | with_reducible exact grew_refl _ | with_reducible assumption | with_reducible refine grew_split ?_ | with_reducible refine grew_mk ?_ | with_reducible refine grew_plus ?_ | with_reducible refine grew_alloc ?_ | with_reducible refine grew_drew ?_ | (with_reducible refine grew_set ?_ (by first | exact Nat.le_refl _ | omega | (simp [go_sem]; done) | (simp [go_sem]; omega))))))) HS3.out hlm3).mono ?_
    rw [HM.out]
    rintro e w' ⟨⟨A6, d6, rfl, hO6⟩, g6, rfl⟩
    (try rw [plus_plus] at hO6)
    have O6 := hid hO6.sl
    clear hO6
    go_wp2_with fail
    refine (l_rAreas R A5 A6 d5 d6 _ (O5.out.grew (by (repeat (first | with_reducible exact grew_refl _ | with_reducible assumption | with_reducible refine grew_split ?_ | with_reducible refine grew_mk ?_ | with_reducible refine grew_plus ?_ | with_reducible refine grew_alloc ?_ | with_reducible refine grew_drew ?_ | (with_reducible refine grew_set ?_ (by first | exact Nat.le_refl _ | omega | (simp [go_sem]; done) | (simp [go_sem]; omega))))))) (O6.out.grew (by (repeat (first | with_reducible exact grew_refl _ | with_reducible assumption | with_reducible refine grew_split ?_ | with_reducible refine grew_mk ?_ | with_reducible refine grew_plus ?_ | with_reducible refine grew_alloc ?_ | with_reducible refine grew_drew ?_ | (with_reducible refine grew_set ?_ (by first | exact Nat.le_refl _ | omega | (simp [go_sem]; done) | (simp [go_sem]; omega))))))) (by unfold maxLen; omega)).mono ?_
    (rintro e w' ⟨rfl, gx, rfl⟩)
    go_upto_if 143 with fail
    go_cut [20] (fun _ wx => ∃ g, wx = plus W3 g)
    case first =>
      cases told
      · go_wp2_with fail
        go_meet
        exact ⟨_, rfl⟩
      · obtain ⟨hsh, hs2, hlen⟩ := HSH.out rfl
        obtain ⟨num, den, fine, hN⟩ : ∃ num den fine, shareF L3 = (num, den, fine) := ⟨_, _, _, rfl⟩
        rw [hN] at hs2
        simp only at hs2
        subst hs2
        have HN1 := hid hN
        have HN2 := hid (hsh.symm.trans hN)
        have hne : ((R.length : Int) != (L3.length : Int) - 1) = false := by simp; omega
        clear hsh hN hlen
        go_wp2_with fail
        refine (i_ShareOfAll L3 B3 d3' _ (HL3.out.grew (by (repeat (first | with_reducible exact grew_refl _ | with_reducible assumption | with_reducible refine grew_split ?_ | with_reducible refine grew_mk ?_ | with_reducible refine grew_plus ?_ | with_reducible refine grew_alloc ?_ | with_reducible refine grew_drew ?_ | (with_reducible refine grew_set ?_ (by first | exact Nat.le_refl _ | omega | (simp [go_sem]; done) | (simp [go_sem]; omega))))))) HS3.out hlm3).mono ?_
        rw [HN1.out]
        (rintro e w' ⟨rfl, gx, rfl⟩)
        go_wp2_with fail
        refine (i_ShareOfAll R A5 d5 _ (O5.out.grew (by (repeat (first | with_reducible exact grew_refl _ | with_reducible assumption | with_reducible refine grew_split ?_ | with_reducible refine grew_mk ?_ | with_reducible refine grew_plus ?_ | with_reducible refine grew_alloc ?_ | with_reducible refine grew_drew ?_ | (with_reducible refine grew_set ?_ (by first | exact Nat.le_refl _ | omega | (simp [go_sem]; done) | (simp [go_sem]; omega))))))) HRS.out (by unfold maxLen; omega)).mono ?_
        rw [HN2.out]
        (rintro e w' ⟨rfl, gx, rfl⟩)
        go_wp2_with fail
        go_meet
        exact ⟨_, rfl⟩
    case rest =>
      obtain ⟨gr3, rfl⟩ := hcut
      clear O5 O6 HL3
      obtain ⟨T, hTF, hTz, hTn⟩ := reportF_pair L
      rw [HO.out] at hTF hTn
      have HTF := hid hTF
      have HTN := hid hTn
      have hg3 := HG3.out
      have HW := hid (show ∃ g, plus W3 gr3 = plus w g from grew_two' hg (grew_two' ⟨gr, rfl⟩ (grew_two' hg3 ⟨gr3, rfl⟩)))
      have HL4 := hid (HL.out.grew (show ∃ g, plus W3 gr3 = plus W2 g from grew_two' ⟨gr, rfl⟩ (grew_two' hg3 ⟨gr3, rfl⟩)))
      have HT4 := hid (HT.out.grew HW.out)
      have t5 : (T.toList == T.toList) = true := by simp
      clear hTF hTn hg3 hg HL HG
      go_wp2_with fail
      refine (i_SurveyReport L B d _ HL4.out HS.out hlm HT4.out).mono ?_
      rw [HTF.out]
      (rintro e w' ⟨rfl, gx, rfl⟩)
      go_wp2_with fail
      refine (s_SurveyReport L B d _ (HL4.out.grew (by (repeat (first | with_reducible exact grew_refl _ | with_reducible assumption | with_reducible refine grew_split ?_ | with_reducible refine grew_mk ?_ | with_reducible refine grew_plus ?_ | with_reducible refine grew_alloc ?_ | with_reducible refine grew_drew ?_ | (with_reducible refine grew_set ?_ (by first | exact Nat.le_refl _ | omega | (simp [go_sem]; done) | (simp [go_sem]; omega))))))) HS.out hlm).mono ?_
      rw [HTF.out]
      (rintro e w' ⟨rfl, gx, rfl⟩)
      go_upto_block 2 with fail
      go_cut [30, 31] (fun n _ wx => n = .int .i64 (nls T : Int) ∧ ∃ g, wx = plus (plus W3 gr3) g)
      case first =>
        go_wp2_with fail
        go_loopw [30, 31] (fun n i wr => ∃ k : Nat, k ≤ T.size ∧ i = .int .i64 k ∧ n = .int .i64 (((T.data.toList.take k).countP (fun c => c == 10) : Nat) : Int) ∧ ∃ g, wr = plus (plus W3 gr3) g) (fun _ i _ => T.size - (intOf i).toNat)
        case atStart => exact ⟨0, Nat.zero_le _, rfl, rfl, by (repeat (first | with_reducible exact grew_refl _ | with_reducible assumption | with_reducible refine grew_split ?_ | with_reducible refine grew_mk ?_ | with_reducible refine grew_plus ?_ | with_reducible refine grew_alloc ?_ | with_reducible refine grew_drew ?_ | (with_reducible refine grew_set ?_ (by first | exact Nat.le_refl _ | omega | (simp [go_sem]; done) | (simp [go_sem]; omega)))))⟩
        case round =>
          obtain ⟨k, hk, rfl, rfl, gq, rfl⟩ := hrel
          have hcb : (T.data.toList.take k).countP (fun c => c == 10) ≤ k := Nat.le_trans List.countP_le_length (List.length_take_le _ _)
          by_cases hlt : k < T.size
          · have HN := hid (nls_take hlt)
            generalize hC : (T.data.toList.take k).countP (fun c => c == 10) = C at HN hcb ⊢
            by_cases hx : T[k] = 10
            · have hx' : ((T[k].toNat : Int) == 10) = true := by rw [hx]; rfl
              have HX := hid hx
              clear hx hC
              go_wp2_with fail
              go_roundw
              case rel => exact ⟨k + 1, by omega, by go_num, by rw [HN.out, if_pos HX.out]; go_num, by (repeat (first | with_reducible exact grew_refl _ | with_reducible assumption | with_reducible refine grew_split ?_ | with_reducible refine grew_mk ?_ | with_reducible refine grew_plus ?_ | with_reducible refine grew_alloc ?_ | with_reducible refine grew_drew ?_ | (with_reducible refine grew_set ?_ (by first | exact Nat.le_refl _ | omega | (simp [go_sem]; done) | (simp [go_sem]; omega)))))⟩
              case measure => simp [intOf]; omega
            · have hx' : ((T[k].toNat : Int) == 10) = false := by
                rw [beq_eq_false_iff_ne]
                intro e
                apply hx
                apply UInt8.toNat_inj.1
                have h3 : (10 : UInt8).toNat = 10 := rfl
                omega
              have HX := hid hx
              clear hx hC
              go_wp2_with fail
              go_roundw
              case rel => exact ⟨k + 1, by omega, by go_num, by rw [HN.out, if_neg HX.out]; rfl, by (repeat (first | with_reducible exact grew_refl _ | with_reducible assumption | with_reducible refine grew_split ?_ | with_reducible refine grew_mk ?_ | with_reducible refine grew_plus ?_ | with_reducible refine grew_alloc ?_ | with_reducible refine grew_drew ?_ | (with_reducible refine grew_set ?_ (by first | exact Nat.le_refl _ | omega | (simp [go_sem]; done) | (simp [go_sem]; omega)))))⟩
              case measure => simp [intOf]; omega
          · obtain rfl : k = T.size := by omega
            go_wp2_with fail
            go_meet
            exact ⟨vint (by rw [nls, List.take_of_length_le (by simp)]), by (repeat (first | with_reducible exact grew_refl _ | with_reducible assumption | with_reducible refine grew_split ?_ | with_reducible refine grew_mk ?_ | with_reducible refine grew_plus ?_ | with_reducible refine grew_alloc ?_ | with_reducible refine grew_drew ?_ | (with_reducible refine grew_set ?_ (by first | exact Nat.le_refl _ | omega | (simp [go_sem]; done) | (simp [go_sem]; omega)))))⟩
      case rest =>
        obtain ⟨rfl, gr4, rfl⟩ := hcut
        obtain ⟨n, hn⟩ : ∃ n : Nat, nls T = n := ⟨_, rfl⟩
        rw [hn]
        have hnl : o = true → n = L.length := fun e => by rw [← hn]; exact HTN.out e
        have HNL := hid hnl
        have HC4 := hid (HC.out.grew1 (grew_two' HW.out ⟨gr4, rfl⟩))
        have HT5 := hid (HT4.out.grew ⟨gr4, rfl⟩)
        have HW4 := hid (grew_two' HW.out ⟨gr4, rfl⟩)
        clear hnl hn HL4 HT4 HTN HTF t5
        rw [plus_plus] at HC4 HT5 HW4
        go_wp2_with fail
        refine (s_DrawLine A c bs _ HC4.out).mono ?_
        rintro e w' ⟨⟨r, rfl, hr⟩, g9, rfl⟩
        obtain ⟨t, q, hq⟩ : ∃ t q, areaF r = (t, q) := ⟨_, _, rfl⟩
        have hq2 : r.ok = q := by rw [← areaF_snd, hq]
        have HQ := hid hq
        have HQ2 := hid hq2
        have hrm : r.nm.size ≤ maxLen := by unfold maxLen; omega
        have t6 : (t.toList == t.toList) = true := by simp
        have t7 : (q == q) = true := by simp
        clear hq hq2
        go_wp2_with fail
        refine (i_AreaLine r _ hrm (HT5.out.grew (by (repeat (first | with_reducible exact grew_refl _ | with_reducible assumption | with_reducible refine grew_split ?_ | with_reducible refine grew_mk ?_ | with_reducible refine grew_plus ?_ | with_reducible refine grew_alloc ?_ | with_reducible refine grew_drew ?_ | (with_reducible refine grew_set ?_ (by first | exact Nat.le_refl _ | omega | (simp [go_sem]; done) | (simp [go_sem]; omega)))))))).mono ?_
        rw [HQ.out]
        (rintro e w' ⟨rfl, gx, rfl⟩)
        go_wp2_with fail
        refine (s_AreaLine r _ hrm (HT5.out.grew (by (repeat (first | with_reducible exact grew_refl _ | with_reducible assumption | with_reducible refine grew_split ?_ | with_reducible refine grew_mk ?_ | with_reducible refine grew_plus ?_ | with_reducible refine grew_alloc ?_ | with_reducible refine grew_drew ?_ | (with_reducible refine grew_set ?_ (by first | exact Nat.le_refl _ | omega | (simp [go_sem]; done) | (simp [go_sem]; omega)))))))).mono ?_
        rw [HQ.out]
        (rintro e w' ⟨rfl, gx, rfl⟩)
        cases o
        · go_wp2_with fail
          refine (i_IsAreaRow r _ HQ2.out _ hrm).mono ?_
          (rintro e w' ⟨rfl, gx, rfl⟩)
          go_wp2_with fail
          go_ret
          have h := HW4.out
          exact ⟨rfl, by (repeat (first | with_reducible exact grew_refl _ | with_reducible assumption | with_reducible refine grew_split ?_ | with_reducible refine grew_mk ?_ | with_reducible refine grew_plus ?_ | with_reducible refine grew_alloc ?_ | with_reducible refine grew_drew ?_ | (with_reducible refine grew_set ?_ (by first | exact Nat.le_refl _ | omega | (simp [go_sem]; done) | (simp [go_sem]; omega)))))⟩
        · obtain rfl := HNL.out rfl
          go_wp2_with fail
          refine (i_IsAreaRow r _ HQ2.out _ hrm).mono ?_
          (rintro e w' ⟨rfl, gx, rfl⟩)
          go_wp2_with fail
          go_ret
          have h := HW4.out
          exact ⟨rfl, by (repeat (first | with_reducible exact grew_refl _ | with_reducible assumption | with_reducible refine grew_split ?_ | with_reducible refine grew_mk ?_ | with_reducible refine grew_plus ?_ | with_reducible refine grew_alloc ?_ | with_reducible refine grew_drew ?_ | (with_reducible refine grew_set ?_ (by first | exact Nat.le_refl _ | omega | (simp [go_sem]; done) | (simp [go_sem]; omega)))))⟩
theorem fnAreas_met (os : Os) : laidMet Tryd.prog Rows.fnAreasRow.laid ((laidWorld os).forCall (fun _ _ => 0) ⟨#[], #[.slice none 0 0], []⟩).memory :=
  laidMet_of_run' 8 (by kernel_rfl) (by kernel_rfl)
theorem fnAreas_reads (os : Os) {H : Type} (enc : TypeId × Value → H) : ∃ places, DataW.whole enc Tryd.prog ((laidWorld os).forCall (fun _ _ => 0) ⟨#[], #[.slice none 0 0], []⟩).memory Tryd.f4.params.toList Rows.fnAreasSpec.vars false (#[.slice none 0 0] : Array Value).toList 8 = some ([.nil], [], places) :=
  ⟨[], by kernel_rfl⟩
set_option maxRecDepth 100000 in
theorem fnAreas_contract (H : Type) (enc : TypeId × Value → H) (W : World) (base : Nat) (args : Array Value) (ds gs : List (DataW H)) (before : List MemPlace)
    (hval0 : ∀ (j : Nat) t v, Tryd.f4.params[j]? = some t → args[j]? = some v → Value.okWide Tryd.prog W .any base t v)
    (hW : DataW.Whole enc Tryd.prog Tryd.f4.params.toList Rows.fnAreasSpec.vars false W args.toList ds gs before) (hL : laidMetH Tryd.prog Rows.fnAreasRow.laid W) (_hsh : W.ShapedOpen Tryd.prog) :
    Calls Tryd.prog 4 args W fun e W' => ∃ v, e = .returned v ∧ Rows.fnAreasSpec.post enc Tryd.prog Tryd.f4 false true false false W args v W' := by
  have hT : Tab W := tab_of hL
  have hval := hval0
  have hW' := hW
  obtain ⟨p, q, hA0, hV, rfl, hfz, hnd⟩ := hW
  have hA : DataW.TrodAll enc Tryd.prog W 0 (fun _ => true) true Tryd.f4.params.toList args.toList ds p := hA0
  rw [Tryd.params4] at hA hval
  obtain ⟨v0, vs0, d0, ds0, p0, q0, hargs, rfl, rfl, h0, r0⟩ := trodAll_cons hA
  obtain ⟨rfl, rfl, rfl⟩ := trodAll_nil r0
  obtain rfl : args = #[v0] := by cases args; simp_all
  obtain ⟨rfl, rfl⟩ := trodVars_none hV
  have k0 := h0
  have lt0 : ∀ x ∈ p0, x.block < W.heap.size := by obtain ⟨m, hm⟩ := k0; exact DataW.trod_lt m _ _ _ hm
  obtain ⟨A, c, l, rfl, hS, hb, hl⟩ := open_code (hval 0 30 v0 rfl rfl) h0
  clear hA0 hval0
  refine (l_FnAreas A c l W hS hb hl hT).mono fun e W' ⟨he, hg⟩ => ?_
  have bel := below_of_grew hg
  subst he
  exact ⟨_, rfl, _, _, _, [], _, [], hW', trodAll_mk1 (shut_bool Tryd.underlying4 _), (trodAll_cons_mk (Below.trod laid_out (by kernel_rfl) (of_decide_eq_true (by kernel_rfl)) k0 bel lt0) trodAll_mk0), rfl, bel.frame _, fun h => by cases h⟩
set_option maxRecDepth 100000 in
theorem fnAreas_lifted (os : Os) (started : os.Started) (H : Type) (enc : TypeId × Value → H) (F : Stop.Interp) :
    ReturnsInHanded {} Tryd.checked os 4 .any ((OpenSpec.ofChange Rows.fnAreasSpec).preRow enc Tryd.prog Tryd.f4 Rows.fnAreasRow.domain false Rows.fnAreasRow.laid) (((OpenSpec.ofChange Rows.fnAreasSpec).at F).post enc Tryd.prog Tryd.f4 false true false false) := by
  obtain ⟨places, hx⟩ := fnAreas_reads os enc
  refine returnsInHanded_of_row (C := Tryd.checked) (s := OpenSpec.ofChange Rows.fnAreasSpec) own_knob started (by kernel_rfl) Tryd.func4
    (witness_row_at (enc := enc) (C := Tryd.checked) false (laidWorld os) #[.slice none 0 0] rfl (by kernel_rfl) (by kernel_rfl) (by kernel_rfl)
      (OpenSpec.preRow_of_cond 8 hx (by kernel_rfl) (fun k hk => by cases hk) (by kernel_rfl) (fnAreas_met os))) ?_
  intro W base args ds gs before hval hW _ _ _ hL hsh _
  exact fnAreas_contract H enc W base args ds gs before hval hW hL hsh
theorem fnAreas_said : Rows.FnAreasSaid :=
  OpenClaim.holds_of_cond 4 Tryd.f4 rfl rfl rfl rfl rfl rfl rfl ⟨rfl, rfl, rfl, rfl, rfl⟩ rfl rfl rfl rfl rfl (by kernel_rfl) Tryd.func4 (by kernel_rfl)
    (of_decide_eq_true (by kernel_rfl)) (by unfold Func.isWrapper; first | (rw [if_pos (by decide +kernel)]; kernel_rfl) | (rw [if_neg (by decide +kernel)]; exact ⟨rfl, rfl⟩))
    (fun os started H enc _ F => by rw [OpenClaim.pre_eq_preRow]; exact fnAreas_lifted os started H enc F)
theorem fnAreas_plain (f : FuncId) (fn : Func) (hf : Tryd.pinned.checked.prog.funcNamed Rows.fnAreasRow.func = some f) (hfn : Tryd.pinned.checked.prog.funcs[f]? = some fn) :
    false = Tryd.pinned.checked.prog.looks [] ∧ ∀ (j : Nat) t, fn.params[j]? = some t → Tryd.pinned.checked.prog.wantsStandIn t = false := by
  obtain rfl : f = 4 := Option.some.inj ((show Tryd.prog.funcNamed Rows.fnAreasRow.func = some 4 by kernel_rfl).symm.trans hf) |>.symm
  obtain rfl : fn = Tryd.f4 := (Option.some.inj (Tryd.func4.symm.trans hfn)).symm
  refine ⟨by kernel_rfl, fun j t ht => ?_⟩
  have h : ∀ t ∈ Tryd.f4.params.toList, Tryd.prog.wantsStandIn t = false := by rw [Tryd.params4]; intro t ht; simp at ht; rcases ht with rfl <;> kernel_rfl
  exact h t (by simpa using Array.mem_of_getElem? ht)
theorem fnAreas_holds : Rows.FnAreasCardSaid :=
  Claim7.holds_tied_plain_at .later [] _ _ _ _ fnAreas_said (fun _ h => by cases h) (by kernel_rfl) (fun _ h => by cases h) fnAreas_row_tie rfl ⟨rfl, rfl⟩ (by kernel_rfl) rfl fnAreas_plain (by kernel_rfl)
end Go.Proofs.YteogidghoohgaaaDoor
