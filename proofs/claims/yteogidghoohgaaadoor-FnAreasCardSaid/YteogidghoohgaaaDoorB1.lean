/- The report of a survey, in both packages. -/
import Derived.Test.YteogidghoohgaaaDoorN3
import Derived.Test.YteogidghoohgaaaDoorAx
namespace Go.Proofs.YteogidghoohgaaaDoor
open Go.RowKit

def nlA : ByteArray := ⟨#[10]⟩
/-- The lines of the first k areas. -/
def linesT (l : List AreaR) : Nat → ByteArray
  | 0 => ⟨#[]⟩
  | k + 1 => if h : k < l.length then linesT l k ++ (areaC l[k] ++ nlA) else linesT l k
theorem linesT_step {l : List AreaR} {k : Nat} (h : k < l.length) : linesT l (k + 1) = linesT l k ++ (areaC l[k] ++ nlA) := by simp [linesT, h]
theorem linesT_size {l : List AreaR} (hok : ∀ k (h : k < l.length), l[k].ok = true) : ∀ k, k ≤ l.length → (linesT l k).size ≤ 201 * k := by
  intro k
  induction k with
  | zero => intro _; exact Nat.le_refl _
  | succ k ih =>
    intro hk
    have h := ih (by omega)
    have h2 := areaC_size (hok k (by omega))
    have h3 : nlA.size = 1 := rfl
    rw [linesT_step (by omega), ByteArray.size_append, ByteArray.size_append]
    omega
def doneN (l : List AreaR) (k : Nat) : Nat := (chTo doneR l k).length
theorem doneN_le (l : List AreaR) (k : Nat) : doneN l k ≤ k := chTo_len doneR l k
theorem doneN_yes {l : List AreaR} {k : Nat} (h : k < l.length) (hc : doneR l[k] = true) : doneN l (k + 1) = doneN l k + 1 := by rw [doneN, chTo_yes h hc]; simp [doneN]
theorem doneN_no {l : List AreaR} {k : Nat} (h : k < l.length) (hc : doneR l[k] = false) : doneN l (k + 1) = doneN l k := by rw [doneN, chTo_no h hc]; rfl
def reportT (l : List AreaR) : ByteArray := linesT l l.length ++ bsA [100, 111, 110, 101, 58, 32] ++ num (doneN l l.length) ++ bsA [32, 111, 102, 32] ++ num l.length
def reportF (l : List AreaR) : ByteArray × Bool := if areasB l then (reportT l, true) else (⟨#[]⟩, false)
theorem doneN_names (l : List AreaR) : ((ordF doneR gtNo l).map AreaR.nm).length = doneN l l.length := by
  rw [List.length_map, ordF_never, doneN, chTo_all]
set_option maxHeartbeats 2000000 in
theorem i_SurveyReport (l : List AreaR) (A : Option Addr) (c : Nat) (w : World) (hA : Sl w 6 AreaR.row A l) (hs : ∀ r ∈ l, r.nm.size ≤ maxLen) (hl : l.length ≤ maxLen) (hT : Tab w) :
    Calls Tryd.prog 8 #[.slice A l.length c] w fun e w' => e = .returned (.tuple #[.string (reportF l).1, .bool (reportF l).2]) ∧ ∃ g, w' = plus w g := by
  have HA := hid hA
  have HS := hid hs
  have HT := hid hT
  clear hA hs hT
  cases hg : areasB l
  · have HF := hid (show reportF l = (⟨#[]⟩, false) by simp [reportF, hg])
    have HN := hid (namesF_bad (ch := doneR) (gt := gtNo) hg)
    clear hg
    go_enter Tryd.func8, Tryd.ntmps8
    go_wp2_with fail
    refine (i_DoneAreas l A c _ HA.out HS.out hl).mono ?_
    rw [HN.out]
    rintro e w' ⟨⟨A1, c1, rfl, -⟩, g1, rfl⟩
    go_wp2_with fail
    go_ret2
    exact ⟨ret_strb (by rw [HF.out]) (by rw [HF.out]), by (repeat (first | with_reducible exact grew_refl _ | with_reducible assumption | with_reducible refine grew_split ?_ | with_reducible refine grew_mk ?_ | with_reducible refine grew_plus ?_ | with_reducible refine grew_alloc ?_ | with_reducible refine grew_drew ?_ | (with_reducible refine grew_set ?_ (by first | exact Nat.le_refl _ | omega | (simp [go_sem]; done) | (simp [go_sem]; omega)))))⟩
  · have HF := hid (show reportF l = (reportT l, true) by simp [reportF, hg])
    have HN := hid (namesF_good (ch := doneR) (gt := gtNo) hg)
    have HL := hid (doneN_names l)
    have hl10 := areasB_len hg
    have HOK := hid (fun k (hk : k < l.length) => areasB_ok hg hk)
    have HZ := hid (linesT_size HOK.out)
    have hdn := doneN_le l l.length
    clear hg
    go_enter Tryd.func8, Tryd.ntmps8
    go_wp2_with fail
    refine (i_DoneAreas l A c _ HA.out HS.out hl).mono ?_
    rw [HN.out]
    rintro e w' ⟨⟨A1, c1, rfl, -⟩, g1, rfl⟩
    simp only
    rw [HL.out]
    have zd := num_size (doneN l l.length : Int) (by omega) (by omega)
    have zl := num_size (l.length : Int) (by omega) (by omega)
    generalize hD : doneN l l.length = D at zd hdn ⊢
    have HD := hid hD
    clear hD
    go_wp2_with fail
    go_loopw [6, 18, 8] (fun t i _ wr => ∃ k : Nat, k ≤ l.length ∧ i = .int .i64 k ∧ t = .string (linesT l k) ∧ ∃ g, wr = plus w g) (fun _ i _ _ => l.length - (intOf i).toNat)
    case atStart => exact ⟨0, Nat.zero_le _, rfl, rfl, by (repeat (first | with_reducible exact grew_refl _ | with_reducible assumption | with_reducible refine grew_split ?_ | with_reducible refine grew_mk ?_ | with_reducible refine grew_plus ?_ | with_reducible refine grew_alloc ?_ | with_reducible refine grew_drew ?_ | (with_reducible refine grew_set ?_ (by first | exact Nat.le_refl _ | omega | (simp [go_sem]; done) | (simp [go_sem]; omega)))))⟩
    case round =>
      obtain ⟨k, hk, rfl, rfl, hg⟩ := hrel
      have HW := hid hg
      have hz := HZ.out k hk
      by_cases hlt : k < l.length
      · obtain ⟨b0, off, rfl, hb0, hc⟩ := (HA.out.grew hg).at_ hlt
        obtain ⟨hc0, hc1, hc2, hc3, hc4, hc5⟩ := AreaR.cells6 hc hlt
        have hok := HOK.out k hlt
        have hst := linesT_step hlt
        have hsz := areaC_size hok
        generalize hr : l[k] = r at hc0 hc1 hc2 hc3 hc4 hc5 hok hst hsz
        generalize hX : linesT l k = X at hst hz ⊢
        have HOKr := hid hok
        have HST := hid hst
        clear hc hok hst hr hX hg
        have h1 : nlA.size = 1 := rfl
        go_wp2_with fail
        refine (i_areaLine r HOKr.out _ (HT.out.grew (by have h := HW.out; (repeat (first | with_reducible exact grew_refl _ | with_reducible assumption | with_reducible refine grew_split ?_ | with_reducible refine grew_mk ?_ | with_reducible refine grew_plus ?_ | with_reducible refine grew_alloc ?_ | with_reducible refine grew_drew ?_ | (with_reducible refine grew_set ?_ (by first | exact Nat.le_refl _ | omega | (simp [go_sem]; done) | (simp [go_sem]; omega)))))))).mono ?_
        (rintro e w' ⟨rfl, gx, rfl⟩)
        go_wp2_with fail
        have hg := HW.out
        go_roundw
        case rel => exact ⟨k + 1, by omega, by go_num, by rw [HST.out]; rfl, by (repeat (first | with_reducible exact grew_refl _ | with_reducible assumption | with_reducible refine grew_split ?_ | with_reducible refine grew_mk ?_ | with_reducible refine grew_plus ?_ | with_reducible refine grew_alloc ?_ | with_reducible refine grew_drew ?_ | (with_reducible refine grew_set ?_ (by first | exact Nat.le_refl _ | omega | (simp [go_sem]; done) | (simp [go_sem]; omega)))))⟩
        case measure => simp [intOf]; omega
      · obtain rfl : k = l.length := by omega
        have hg := HW.out
        go_wp2_with fail
        refine (i_Itoa _ _ (by omega) (by omega) (HT.out.grew (by (repeat (first | with_reducible exact grew_refl _ | with_reducible assumption | with_reducible refine grew_split ?_ | with_reducible refine grew_mk ?_ | with_reducible refine grew_plus ?_ | with_reducible refine grew_alloc ?_ | with_reducible refine grew_drew ?_ | (with_reducible refine grew_set ?_ (by first | exact Nat.le_refl _ | omega | (simp [go_sem]; done) | (simp [go_sem]; omega)))))))).mono ?_
        (rintro e w' ⟨rfl, gx, rfl⟩)
        go_wp2_with fail
        refine (i_Itoa _ _ (by omega) (by omega) (HT.out.grew (by (repeat (first | with_reducible exact grew_refl _ | with_reducible assumption | with_reducible refine grew_split ?_ | with_reducible refine grew_mk ?_ | with_reducible refine grew_plus ?_ | with_reducible refine grew_alloc ?_ | with_reducible refine grew_drew ?_ | (with_reducible refine grew_set ?_ (by first | exact Nat.le_refl _ | omega | (simp [go_sem]; done) | (simp [go_sem]; omega)))))))).mono ?_
        (rintro e w' ⟨rfl, gx, rfl⟩)
        go_wp2_with fail
        go_ret2
        exact ⟨ret_strb (by rw [HF.out, reportT, HD.out]; simp [bsA, ByteArray.append_assoc]) (by rw [HF.out]), by (repeat (first | with_reducible exact grew_refl _ | with_reducible assumption | with_reducible refine grew_split ?_ | with_reducible refine grew_mk ?_ | with_reducible refine grew_plus ?_ | with_reducible refine grew_alloc ?_ | with_reducible refine grew_drew ?_ | (with_reducible refine grew_set ?_ (by first | exact Nat.le_refl _ | omega | (simp [go_sem]; done) | (simp [go_sem]; omega)))))⟩
set_option maxHeartbeats 2000000 in
theorem s_SurveyReport (l : List AreaR) (A : Option Addr) (c : Nat) (w : World) (hA : Sl w 6 AreaR.row A l) (hs : ∀ r ∈ l, r.nm.size ≤ maxLen) (hl : l.length ≤ maxLen) :
    Calls Tryd.prog 6 #[.slice A l.length c] w fun e w' => e = .returned (.tuple #[.string (reportF l).1, .bool (reportF l).2]) ∧ ∃ g, w' = plus w g := by
  have HA := hid hA
  have HS := hid hs
  clear hA hs
  cases hg : areasB l
  · have HF := hid (show reportF l = (⟨#[]⟩, false) by simp [reportF, hg])
    have HG := hid hg
    clear hg
    go_enter Tryd.func6, Tryd.ntmps6
    go_wp2_with fail
    refine (s_l26Good l A c _ HG.out _ HA.out HS.out hl).mono ?_
    (rintro e w' ⟨rfl, gx, rfl⟩)
    go_wp2_with fail
    go_ret2
    exact ⟨ret_strb (by rw [HF.out]) (by rw [HF.out]), by (repeat (first | with_reducible exact grew_refl _ | with_reducible assumption | with_reducible refine grew_split ?_ | with_reducible refine grew_mk ?_ | with_reducible refine grew_plus ?_ | with_reducible refine grew_alloc ?_ | with_reducible refine grew_drew ?_ | (with_reducible refine grew_set ?_ (by first | exact Nat.le_refl _ | omega | (simp [go_sem]; done) | (simp [go_sem]; omega)))))⟩
  · have HF := hid (show reportF l = (reportT l, true) by simp [reportF, hg])
    have HG := hid hg
    have hl10 := areasB_len hg
    have HOK := hid (fun k (hk : k < l.length) => areasB_ok hg hk)
    have HZ := hid (linesT_size HOK.out)
    clear hg
    go_enter Tryd.func6, Tryd.ntmps6
    go_wp2_with fail
    refine (s_l26Good l A c _ HG.out _ HA.out HS.out hl).mono ?_
    (rintro e w' ⟨rfl, gx, rfl⟩)
    go_wp2_with fail
    go_loopw [4, 5, 6] (fun t n i wr => ∃ k : Nat, k ≤ l.length ∧ i = .int .i64 k ∧ t = .string (linesT l k) ∧ n = .int .i64 (doneN l k : Int) ∧ ∃ g, wr = plus w g) (fun _ _ i _ => l.length - (intOf i).toNat)
    case atStart => exact ⟨0, Nat.zero_le _, rfl, rfl, rfl, by (repeat (first | with_reducible exact grew_refl _ | with_reducible assumption | with_reducible refine grew_split ?_ | with_reducible refine grew_mk ?_ | with_reducible refine grew_plus ?_ | with_reducible refine grew_alloc ?_ | with_reducible refine grew_drew ?_ | (with_reducible refine grew_set ?_ (by first | exact Nat.le_refl _ | omega | (simp [go_sem]; done) | (simp [go_sem]; omega)))))⟩
    case round =>
      obtain ⟨k, hk, rfl, rfl, rfl, hg⟩ := hrel
      have HW := hid hg
      have hz := HZ.out k hk
      have hdn := doneN_le l k
      by_cases hlt : k < l.length
      · obtain ⟨b0, off, rfl, hb0, hc⟩ := (HA.out.grew hg).at_ hlt
        obtain ⟨hc0, hc1, hc2, hc3, hc4, hc5⟩ := AreaR.cells6 hc hlt
        have hok := HOK.out k hlt
        have hst := linesT_step hlt
        have hsz := areaC_size hok
        have hyes := fun h => doneN_yes hlt h
        have hnot := fun h => doneN_no hlt h
        generalize hr : l[k] = r at hc0 hc1 hc2 hc3 hc4 hc5 hok hst hsz hyes hnot
        generalize hX : linesT l k = X at hst hz ⊢
        generalize hD : doneN l k = D at hdn hyes hnot ⊢
        have HOKr := hid hok
        have HST := hid hst
        have HYES := hid hyes
        have HNOT := hid hnot
        clear hc hok hst hr hX hg hyes hnot hD
        have h1 : nlA.size = 1 := rfl
        cases hch : doneR r
        · have HCH := hid hch
          clear hch
          go_wp2_with fail
          refine (s_l26Line r HOKr.out _).mono ?_
          (rintro e w' ⟨rfl, gx, rfl⟩)
          have hg := HW.out
          go_wp2_with fail
          refine (s_l26Done r _).mono ?_
          rw [HCH.out]
          (rintro e w' ⟨rfl, gx, rfl⟩)
          go_wp2_with fail
          go_roundw
          case rel => exact ⟨k + 1, by omega, by go_num, by rw [HST.out, ← ByteArray.append_assoc]; rfl, by rw [HNOT.out HCH.out], by (repeat (first | with_reducible exact grew_refl _ | with_reducible assumption | with_reducible refine grew_split ?_ | with_reducible refine grew_mk ?_ | with_reducible refine grew_plus ?_ | with_reducible refine grew_alloc ?_ | with_reducible refine grew_drew ?_ | (with_reducible refine grew_set ?_ (by first | exact Nat.le_refl _ | omega | (simp [go_sem]; done) | (simp [go_sem]; omega)))))⟩
          case measure => simp [intOf]; omega
        · have HCH := hid hch
          clear hch
          go_wp2_with fail
          refine (s_l26Line r HOKr.out _).mono ?_
          (rintro e w' ⟨rfl, gx, rfl⟩)
          have hg := HW.out
          go_wp2_with fail
          refine (s_l26Done r _).mono ?_
          rw [HCH.out]
          (rintro e w' ⟨rfl, gx, rfl⟩)
          go_wp2_with fail
          go_roundw
          case rel => exact ⟨k + 1, by omega, by go_num, by rw [HST.out, ← ByteArray.append_assoc]; rfl, by rw [HYES.out HCH.out]; go_num, by (repeat (first | with_reducible exact grew_refl _ | with_reducible assumption | with_reducible refine grew_split ?_ | with_reducible refine grew_mk ?_ | with_reducible refine grew_plus ?_ | with_reducible refine grew_alloc ?_ | with_reducible refine grew_drew ?_ | (with_reducible refine grew_set ?_ (by first | exact Nat.le_refl _ | omega | (simp [go_sem]; done) | (simp [go_sem]; omega)))))⟩
          case measure => simp [intOf]; omega
      · obtain rfl : k = l.length := by omega
        have zd := num_size (doneN l l.length : Int) (by omega) (by omega)
        have zl := num_size (l.length : Int) (by omega) (by omega)
        generalize hD : doneN l l.length = D at zd hdn ⊢
        have HD := hid hD
        clear hD
        go_wp2_with fail
        refine (s_l1Num _ _ (by omega) (by omega)).mono ?_
        (rintro e w' ⟨rfl, gx, rfl⟩)
        go_wp2_with fail
        refine (s_l1Num _ _ (by omega) (by omega)).mono ?_
        (rintro e w' ⟨rfl, gx, rfl⟩)
        go_wp2_with fail
        go_ret2
        exact ⟨ret_strb (by rw [HF.out, reportT, HD.out]; simp [bsA, ByteArray.append_assoc]) (by rw [HF.out]), by (repeat (first | with_reducible exact grew_refl _ | with_reducible assumption | with_reducible refine grew_split ?_ | with_reducible refine grew_mk ?_ | with_reducible refine grew_plus ?_ | with_reducible refine grew_alloc ?_ | with_reducible refine grew_drew ?_ | (with_reducible refine grew_set ?_ (by first | exact Nat.le_refl _ | omega | (simp [go_sem]; done) | (simp [go_sem]; omega)))))⟩
end Go.Proofs.YteogidghoohgaaaDoor
