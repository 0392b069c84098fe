/- The reference's orders of areas. -/
import Derived.Test.YteogidghoohgaaaDoorAv
namespace Go.Proofs.YteogidghoohgaaaDoor
open Go.RowKit

attribute [local go_sem ↓] Go.wp_at_zero Go.wp_at_succ
set_option maxHeartbeats 400000 in
theorem s_l26Done (r : AreaR) (w : World) : Calls Tryd.prog 31 #[r.val] w fun e w' => e = .returned (.bool (doneR r)) ∧ ∃ g, w' = plus w g := by
  go_enter Tryd.func31, Tryd.ntmps31
  go_wp2
  all_goals
    go_ret
    refine ⟨ret_bool ?_, by (repeat (first | with_reducible exact grew_refl _ | with_reducible assumption | with_reducible refine grew_split ?_ | with_reducible refine grew_mk ?_ | with_reducible refine grew_plus ?_ | with_reducible refine grew_alloc ?_ | with_reducible refine grew_drew ?_ | (with_reducible refine grew_set ?_ (by first | exact Nat.le_refl _ | omega | (simp [go_sem]; done) | (simp [go_sem]; omega)))))⟩
    simp only [doneR]
    grind
set_option maxHeartbeats 400000 in
theorem s_l26ShareQ (r : AreaR) (w : World) (h : r.ok = true) : Calls Tryd.prog 59 #[r.val] w fun e w' => e = .returned (.int .i64 (shareR r)) ∧ ∃ g, w' = plus w g := by
  obtain ⟨a1, a2, a3, a4, _⟩ := AreaR.bounds h
  have h0 : 0 ≤ 1000 * r.cov := by omega
  have h1 : 1000 * r.cov ≤ 9999000 := by omega
  go_enter Tryd.func59, Tryd.ntmps59
  go_wp2
  go_ret
  exact ⟨rfl, by (repeat (first | with_reducible exact grew_refl _ | with_reducible assumption | with_reducible refine grew_split ?_ | with_reducible refine grew_mk ?_ | with_reducible refine grew_plus ?_ | with_reducible refine grew_alloc ?_ | with_reducible refine grew_drew ?_ | (with_reducible refine grew_set ?_ (by first | exact Nat.le_refl _ | omega | (simp [go_sem]; done) | (simp [go_sem]; omega)))))⟩
set_option maxHeartbeats 1000000 in
theorem s_l26Later (x y : AreaR) (o : Bool) (ho : gtWo x y = o) (w : World) (hx : x.ok = true) (hy : y.ok = true) : Calls Tryd.prog 45 #[x.val, y.val] w fun e w' => e = .returned (.bool o) ∧ ∃ g, w' = plus w g := by
  have HX := hid hx
  have HY := hid hy
  subst ho
  by_cases h1 : shareR x > shareR y
  · have e1 : decide (shareR y < shareR x) = true := by simp; omega
    have HF := hid (show gtWo x y = true by simp [gtWo]; omega)
    clear hx hy h1
    go_enter Tryd.func45, Tryd.ntmps45
    go_wp2_with fail
    (refine wp_region_calm (by kernel_rfl) (by kernel_rfl) ?_; (repeat' (first | go_big_quiet_step ((go_at_call 59; first | with_reducible exact calm_of (s_l26ShareQ x _ HX.out) | with_reducible exact calm_of (s_l26ShareQ y _ HY.out) | with_reducible exact calm_add (s_l26ShareQ x _ HX.out) | with_reducible exact calm_add (s_l26ShareQ y _ HY.out))) | (refine wpQuiet_step (fun K hK => ?_); go_simp; go_ite <;> go_simp <;> (first | (refine hK _ ?_; clear hK K) | (apply Exists.intro; refine ⟨fun _ => ?_, hK _ ?_⟩; ((go_at_call 59; first | with_reducible exact calm_of (s_l26ShareQ x _ HX.out) | with_reducible exact calm_of (s_l26ShareQ y _ HY.out) | with_reducible exact calm_add (s_l26ShareQ x _ HX.out) | with_reducible exact calm_add (s_l26ShareQ y _ HY.out))); clear hK K))))); all_goals (refine wpQuiet_nil ?_; intro _ hw'; obtain ⟨gq, hw''⟩ := hw'; subst hw''))
    go_wp2_with fail
    go_ret
    exact ⟨ret_bool HF.out.symm, by (repeat (first | with_reducible exact grew_refl _ | with_reducible assumption | with_reducible refine grew_split ?_ | with_reducible refine grew_mk ?_ | with_reducible refine grew_plus ?_ | with_reducible refine grew_alloc ?_ | with_reducible refine grew_drew ?_ | (with_reducible refine grew_set ?_ (by first | exact Nat.le_refl _ | omega | (simp [go_sem]; done) | (simp [go_sem]; omega)))))⟩
  · have e1 : decide (shareR y < shareR x) = false := by simp; omega
    by_cases h2 : shareR x = shareR y
    · have e2 : (shareR x == shareR y) = true := by simp [h2]
      have HF := hid (show gtWo x y = decide (x.spread < y.spread) by simp [gtWo, h2])
      clear hx hy h1 h2
      go_enter Tryd.func45, Tryd.ntmps45
      go_wp2_with fail
      (refine wp_region_calm (by kernel_rfl) (by kernel_rfl) ?_; (repeat' (first | go_big_quiet_step ((go_at_call 59; first | with_reducible exact calm_of (s_l26ShareQ x _ HX.out) | with_reducible exact calm_of (s_l26ShareQ y _ HY.out) | with_reducible exact calm_add (s_l26ShareQ x _ HX.out) | with_reducible exact calm_add (s_l26ShareQ y _ HY.out))) | (refine wpQuiet_step (fun K hK => ?_); go_simp; go_ite <;> go_simp <;> (first | (refine hK _ ?_; clear hK K) | (apply Exists.intro; refine ⟨fun _ => ?_, hK _ ?_⟩; ((go_at_call 59; first | with_reducible exact calm_of (s_l26ShareQ x _ HX.out) | with_reducible exact calm_of (s_l26ShareQ y _ HY.out) | with_reducible exact calm_add (s_l26ShareQ x _ HX.out) | with_reducible exact calm_add (s_l26ShareQ y _ HY.out))); clear hK K))))); all_goals (refine wpQuiet_nil ?_; intro _ hw'; obtain ⟨gq, hw''⟩ := hw'; subst hw''))
      go_wp2_with fail
      go_ret
      exact ⟨ret_bool HF.out.symm, by (repeat (first | with_reducible exact grew_refl _ | with_reducible assumption | with_reducible refine grew_split ?_ | with_reducible refine grew_mk ?_ | with_reducible refine grew_plus ?_ | with_reducible refine grew_alloc ?_ | with_reducible refine grew_drew ?_ | (with_reducible refine grew_set ?_ (by first | exact Nat.le_refl _ | omega | (simp [go_sem]; done) | (simp [go_sem]; omega)))))⟩
    · have e2 : (shareR x == shareR y) = false := by simp [h2]
      have HF := hid (show gtWo x y = false by simp [gtWo, h2]; omega)
      clear hx hy h1 h2
      go_enter Tryd.func45, Tryd.ntmps45
      go_wp2_with fail
      (refine wp_region_calm (by kernel_rfl) (by kernel_rfl) ?_; (repeat' (first | go_big_quiet_step ((go_at_call 59; first | with_reducible exact calm_of (s_l26ShareQ x _ HX.out) | with_reducible exact calm_of (s_l26ShareQ y _ HY.out) | with_reducible exact calm_add (s_l26ShareQ x _ HX.out) | with_reducible exact calm_add (s_l26ShareQ y _ HY.out))) | (refine wpQuiet_step (fun K hK => ?_); go_simp; go_ite <;> go_simp <;> (first | (refine hK _ ?_; clear hK K) | (apply Exists.intro; refine ⟨fun _ => ?_, hK _ ?_⟩; ((go_at_call 59; first | with_reducible exact calm_of (s_l26ShareQ x _ HX.out) | with_reducible exact calm_of (s_l26ShareQ y _ HY.out) | with_reducible exact calm_add (s_l26ShareQ x _ HX.out) | with_reducible exact calm_add (s_l26ShareQ y _ HY.out))); clear hK K))))); all_goals (refine wpQuiet_nil ?_; intro _ hw'; obtain ⟨gq, hw''⟩ := hw'; subst hw''))
      go_wp2_with fail
      go_ret
      exact ⟨ret_bool HF.out.symm, by (repeat (first | with_reducible exact grew_refl _ | with_reducible assumption | with_reducible refine grew_split ?_ | with_reducible refine grew_mk ?_ | with_reducible refine grew_plus ?_ | with_reducible refine grew_alloc ?_ | with_reducible refine grew_drew ?_ | (with_reducible refine grew_set ?_ (by first | exact Nat.le_refl _ | omega | (simp [go_sem]; done) | (simp [go_sem]; omega)))))⟩
set_option maxHeartbeats 2000000 in
theorem s_DoneAreas (l : List AreaR) (A : Option Addr) (c : Nat) (w : World) (hA : Sl w 6 AreaR.row A l) (hs : ∀ r ∈ l, r.nm.size ≤ maxLen) (hl : l.length ≤ maxLen) :
    Calls Tryd.prog 16 #[.slice A l.length c] w fun e w' => NamesPost w.heap.size (namesF doneR gtNo l) e w' ∧ ∃ g, w' = plus w g := by
  have HA := hid hA
  have HS := hid hs
  clear hA hs
  cases hg : areasB l
  · rw [namesF_bad hg]
    have HG := hid hg
    clear hg
    go_enter Tryd.func16, Tryd.ntmps16
    go_wp2_with fail
    refine (s_l26Good l _ _ _ HG.out _ (HA.out.grew (by (repeat (first | with_reducible exact grew_refl _ | with_reducible assumption | with_reducible refine grew_split ?_ | with_reducible refine grew_mk ?_ | with_reducible refine grew_plus ?_ | with_reducible refine grew_alloc ?_ | with_reducible refine grew_drew ?_ | (with_reducible refine grew_set ?_ (by first | exact Nat.le_refl _ | omega | (simp [go_sem]; done) | (simp [go_sem]; omega))))))) HS.out hl).mono ?_
    (rintro e w' ⟨rfl, gx, rfl⟩)
    go_wp2_with fail
    go_ret2
    exact ⟨NamesPost.no, by (repeat (first | with_reducible exact grew_refl _ | with_reducible assumption | with_reducible refine grew_split ?_ | with_reducible refine grew_mk ?_ | with_reducible refine grew_plus ?_ | with_reducible refine grew_alloc ?_ | with_reducible refine grew_drew ?_ | (with_reducible refine grew_set ?_ (by first | exact Nat.le_refl _ | omega | (simp [go_sem]; done) | (simp [go_sem]; omega)))))⟩
  · rw [namesF_good hg, ordF_never]
    have HG := hid hg
    have hl10 := areasB_len hg
    clear hg
    go_enter Tryd.func16, Tryd.ntmps16
    go_wp2_with fail
    refine (s_l26Good l _ _ _ HG.out _ (HA.out.grew (by (repeat (first | with_reducible exact grew_refl _ | with_reducible assumption | with_reducible refine grew_split ?_ | with_reducible refine grew_mk ?_ | with_reducible refine grew_plus ?_ | with_reducible refine grew_alloc ?_ | with_reducible refine grew_drew ?_ | (with_reducible refine grew_set ?_ (by first | exact Nat.le_refl _ | omega | (simp [go_sem]; done) | (simp [go_sem]; omega))))))) HS.out hl).mono ?_
    (rintro e w' ⟨rfl, gx, rfl⟩)
    go_wp2_with fail
    go_loopw [4, 5] (fun o i wr => ∃ (k c2 : Nat) (A2 : Option Addr), k ≤ l.length ∧ i = .int .i64 k ∧ o = .slice A2 (chTo doneR l k).length c2 ∧ Own w.heap.size 9 1 strRow wr A2 c2 ((chTo doneR l k).map AreaR.nm) ∧ ∃ g, wr = plus w g) (fun _ i _ => l.length - (intOf i).toNat)
    case atStart => exact ⟨0, _, _, Nat.zero_le _, rfl, rfl, Own.newIn (o := .cells #[] 9) (by (repeat (first | with_reducible exact grew_refl _ | with_reducible assumption | with_reducible refine grew_split ?_ | with_reducible refine grew_mk ?_ | with_reducible refine grew_plus ?_ | with_reducible refine grew_alloc ?_ | with_reducible refine grew_drew ?_ | (with_reducible refine grew_set ?_ (by first | exact Nat.le_refl _ | omega | (simp [go_sem]; done) | (simp [go_sem]; omega)))))) rfl (by first | rfl | first | (simp [go_sem]; done) | (simp [go_sem]; omega) | (simp [go_sem, Ext.add]; done) | (simp [go_sem, Ext.add]; omega) | omega) (by first | (simp [go_sem]; done) | (simp [go_sem]; omega) | (simp [go_sem, Ext.add]; done) | (simp [go_sem, Ext.add]; omega) | omega), by (repeat (first | with_reducible exact grew_refl _ | with_reducible assumption | with_reducible refine grew_split ?_ | with_reducible refine grew_mk ?_ | with_reducible refine grew_plus ?_ | with_reducible refine grew_alloc ?_ | with_reducible refine grew_drew ?_ | (with_reducible refine grew_set ?_ (by first | exact Nat.le_refl _ | omega | (simp [go_sem]; done) | (simp [go_sem]; omega)))))⟩
    case round =>
      obtain ⟨k, c2, A2, hk, rfl, rfl, hO, hg⟩ := hrel
      have HO := hid hO
      have HW := hid hg
      have hcl := chTo_len doneR l k
      clear hO
      by_cases hlt : k < l.length
      · obtain ⟨b0, off, rfl, hb0, hc⟩ := (HA.out.grew hg).at_ hlt
        obtain ⟨hc0, hc1, hc2, hc3, hc4, hc5⟩ := AreaR.cells6 hc hlt
        have hyes := fun h => chTo_yes (ch := doneR) hlt h
        have hnot := fun h => chTo_no (ch := doneR) hlt h
        generalize hr : l[k] = r at hc0 hc1 hc2 hc3 hc4 hc5 hyes hnot
        have HYES := hid hyes
        have HNOT := hid hnot
        clear hc hyes hnot hr hg
        cases hch : doneR r
        · have HC := hid (HNOT.out hch)
          have HCH := hid hch
          clear hch
          go_wp2_with fail
          refine (s_l26Done r _).mono ?_
          rw [HCH.out]
          (rintro e w' ⟨rfl, gx, rfl⟩)
          have hg := HW.out
          go_wp2_with fail
          go_roundw
          case rel => exact ⟨k + 1, c2, A2, by omega, by go_num, vsl (by rw [HC.out]), by rw [HC.out]; exact HO.out.grew (by (repeat (first | with_reducible exact grew_refl _ | with_reducible assumption | with_reducible refine grew_split ?_ | with_reducible refine grew_mk ?_ | with_reducible refine grew_plus ?_ | with_reducible refine grew_alloc ?_ | with_reducible refine grew_drew ?_ | (with_reducible refine grew_set ?_ (by first | exact Nat.le_refl _ | omega | (simp [go_sem]; done) | (simp [go_sem]; omega)))))), by (repeat (first | with_reducible exact grew_refl _ | with_reducible assumption | with_reducible refine grew_split ?_ | with_reducible refine grew_mk ?_ | with_reducible refine grew_plus ?_ | with_reducible refine grew_alloc ?_ | with_reducible refine grew_drew ?_ | (with_reducible refine grew_set ?_ (by first | exact Nat.le_refl _ | omega | (simp [go_sem]; done) | (simp [go_sem]; omega)))))⟩
          case measure => simp [intOf]; omega
        · have HC := hid (HYES.out hch)
          have HCH := hid hch
          clear hch
          go_wp2_with fail
          refine (s_l26Done r _).mono ?_
          rw [HCH.out]
          (rintro e w' ⟨rfl, gx, rfl⟩)
          have hg := HW.out
          go_wp2_with (at_builtin; go_loud (refine wpList_appB (B := w.heap.size) rfl _ _ _ rfl 9 1 16 _ Tryd.underlying33 str_info rfl (by omega) (by omega) A2 c2 ((chTo doneR l k).map AreaR.nm) (chTo doneR l k).length (by simp) rfl (HO.out.grew (by (repeat (first | with_reducible exact grew_refl _ | with_reducible assumption | with_reducible refine grew_split ?_ | with_reducible refine grew_mk ?_ | with_reducible refine grew_plus ?_ | with_reducible refine grew_alloc ?_ | with_reducible refine grew_drew ?_ | (with_reducible refine grew_set ?_ (by first | exact Nat.le_refl _ | omega | (simp [go_sem]; done) | (simp [go_sem]; omega))))))) (by have h := (below_of_grew HW.out).size; first | (simp [go_sem]; done) | (simp [go_sem]; omega) | (simp [go_sem, Ext.add]; done) | (simp [go_sem, Ext.add]; omega) | omega) (by simp; omega) _ r.nm _ rfl rfl (by intro j u hj; match j, hj with | 0, hj => simp [strRow] at hj; subst hj; simp [Addr.add, go_sem]) (strRow_one _) ?_); intro A4 c4 w4 hO4 hg4 hat4)
          have HO4 := hid hO4
          have HW4 := hid (grew_own (w0 := w) (by (repeat (first | with_reducible exact grew_refl _ | with_reducible assumption | with_reducible refine grew_split ?_ | with_reducible refine grew_mk ?_ | with_reducible refine grew_plus ?_ | with_reducible refine grew_alloc ?_ | with_reducible refine grew_drew ?_ | (with_reducible refine grew_set ?_ (by first | exact Nat.le_refl _ | omega | (simp [go_sem]; done) | (simp [go_sem]; omega)))))) hg4 (fun a ha => (HO.out.ne a ha).1))
          clear hO4 hg4 hat4
          go_roundw
          case rel => exact ⟨k + 1, c4, A4, by omega, by go_num, vsl (by rw [HC.out]; simp), by rw [HC.out, List.map_append]; exact HO4.out, HW4.out⟩
          case measure => simp [intOf]; omega
      · obtain rfl : k = l.length := by omega
        have hR : chTo doneR l l.length = l.filter doneR := chTo_all _ _
        rw [hR] at HO
        rw [hR]
        clear hR
        go_wp2_with fail
        go_ret2
        exact ⟨⟨A2, c2, ret_slw (by simp) rfl, HO.out.f strRow_len⟩, hg⟩
end Go.Proofs.YteogidghoohgaaaDoor
