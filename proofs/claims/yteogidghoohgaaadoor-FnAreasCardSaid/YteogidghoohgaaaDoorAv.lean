/- The names of areas that are chosen, in an order: the package's own function, with each of its orders. -/
import Derived.Test.YteogidghoohgaaaDoorAu
namespace Go.Proofs.YteogidghoohgaaaDoor
open Go.RowKit

attribute [local go_sem ↓] Go.wp_at_zero Go.wp_at_succ
theorem ret_slw {A : Option Addr} {n m c : Nat} {a b : Bool} (h : n = m) (h' : a = b) : Ending.returned (.tuple #[.slice A n c, .bool a]) = .returned (.tuple #[.slice A m c, .bool b]) := by rw [h, h']
def NamesPost (B : Nat) (p : List ByteArray × Bool) (e : Ending) (w' : World) : Prop := ∃ A' c', e = .returned (.tuple #[.slice A' p.1.length c', .bool p.2]) ∧ OwnF B 9 1 strRow w' A' p.1
theorem NamesPost.no {B c : Nat} {A : Option Addr} {w' : World} : NamesPost B ([], false) (.returned (.tuple #[.slice A 0 c, .bool false])) w' := ⟨A, c, rfl, .inl rfl⟩
theorem AreaR.one' (r : AreaR) : ∀ u ∈ r.row, u.oneCell' = true := by
  intro u hu
  simp [AreaR.row] at hu
  rcases hu with rfl | rfl | rfl | rfl | rfl | rfl <;> rfl
set_option maxHeartbeats 4000000 in
set_option maxRecDepth 10000 in
theorem i_namesDone (l : List AreaR) (A : Option Addr) (c : Nat) (w : World) (hA : Sl w 6 AreaR.row A l) (hg : areasB l = true) :
    Calls Tryd.prog 38 #[.slice A l.length c, .func (.func 40) #[] #[], .func (.func 46) #[] #[]] w fun e w' => (∃ A' c', e = .returned (.slice A' ((ordF doneR gtNo l).map AreaR.nm).length c') ∧ OwnF w.heap.size 9 1 strRow w' A' ((ordF doneR gtNo l).map AreaR.nm)) ∧ ∃ g, w' = plus w g := by
  have HA := hid hA
  have HG := hid hg
  have hl := areasB_len hg
  clear hA hg
  go_enter Tryd.func38, Tryd.ntmps38
  go_wp2_with fail
  go_loopw [7, 17, 10] (fun o i _ wr => ∃ (k g1 c1 c2 : Nat) (A2 : Option Addr), k ≤ l.length ∧ i = .int .i64 k ∧ o = .slice (some ⟨g1, 0, none⟩) (chTo doneR l k).length c1 ∧ Own w.heap.size 40 6 AreaR.row wr (some ⟨g1, 0, none⟩) c1 (chTo doneR l k) ∧ Own w.heap.size 9 1 strRow wr (some ⟨w.heap.size + 1, 0, none⟩) 0 [] ∧ ∃ g, wr = plus w g) (fun _ i _ _ => l.length - (intOf i).toNat)
  case atStart => exact ⟨0, w.heap.size, 0, 0, some ⟨w.heap.size + 1, 0, none⟩, Nat.zero_le _, rfl, rfl, (Own.new (o := .cells #[] 40) rfl rfl (Nat.le_refl _)).grew (by (repeat (first | with_reducible exact grew_refl _ | with_reducible assumption | with_reducible refine grew_split ?_ | with_reducible refine grew_mk ?_ | with_reducible refine grew_plus ?_ | with_reducible refine grew_alloc ?_ | with_reducible refine grew_drew ?_ | (with_reducible refine grew_set ?_ (by first | exact Nat.le_refl _ | omega | (simp [go_sem]; done) | (simp [go_sem]; omega)))))), Own.newIn (w := w.alloc (.cells #[] 40)) (o := .cells #[] 9) (by (repeat (first | with_reducible exact grew_refl _ | with_reducible assumption | with_reducible refine grew_split ?_ | with_reducible refine grew_mk ?_ | with_reducible refine grew_plus ?_ | with_reducible refine grew_alloc ?_ | with_reducible refine grew_drew ?_ | (with_reducible refine grew_set ?_ (by first | exact Nat.le_refl _ | omega | (simp [go_sem]; done) | (simp [go_sem]; omega)))))) rfl (by simp) (by simp), by (repeat (first | with_reducible exact grew_refl _ | with_reducible assumption | with_reducible refine grew_split ?_ | with_reducible refine grew_mk ?_ | with_reducible refine grew_plus ?_ | with_reducible refine grew_alloc ?_ | with_reducible refine grew_drew ?_ | (with_reducible refine grew_set ?_ (by first | exact Nat.le_refl _ | omega | (simp [go_sem]; done) | (simp [go_sem]; omega)))))⟩
  case round =>
    obtain ⟨k, g1, c1, c2, A2, hk, rfl, rfl, hO, hO2, hg⟩ := hrel
    have HO := hid hO
    have HO2 := hid hO2
    have HW := hid hg
    have hcl := chTo_len doneR l k
    clear hO hO2
    by_cases hlt : k < l.length
    · obtain ⟨b0, off, rfl, hb0, hc⟩ := (HA.out.grew hg).at_ hlt
      obtain ⟨hc0, hc1, hc2, hc3, hc4, hc5⟩ := AreaR.cells6 hc hlt
      have hok := areasB_ok HG.out hlt
      have hyes := fun h => chTo_yes (ch := doneR) hlt h
      have hnot := fun h => chTo_no (ch := doneR) hlt h
      generalize hr : l[k] = r at hc0 hc1 hc2 hc3 hc4 hc5 hok hyes hnot
      have HOK := hid hok
      have HYES := hid hyes
      have HNOT := hid hnot
      clear hc hok hyes hnot hr hg
      cases hch : doneR r
      · have HC := hid (HNOT.out hch)
        have HCH := hid hch
        clear hch
        go_wp2_with fail
        refine (i_isDone r _).mono ?_
        rw [HCH.out]
        (rintro e w' ⟨rfl, gx, rfl⟩)
        have hg := HW.out
        go_wp2_with fail
        go_roundw
        case rel => exact ⟨k + 1, g1, c1, c2, A2, by omega, by go_num, vsl (by rw [HC.out]), by rw [HC.out]; exact HO.out.grew (by (repeat (first | with_reducible exact grew_refl _ | with_reducible assumption | with_reducible refine grew_split ?_ | with_reducible refine grew_mk ?_ | with_reducible refine grew_plus ?_ | with_reducible refine grew_alloc ?_ | with_reducible refine grew_drew ?_ | (with_reducible refine grew_set ?_ (by first | exact Nat.le_refl _ | omega | (simp [go_sem]; done) | (simp [go_sem]; omega)))))), HO2.out.grew (by (repeat (first | with_reducible exact grew_refl _ | with_reducible assumption | with_reducible refine grew_split ?_ | with_reducible refine grew_mk ?_ | with_reducible refine grew_plus ?_ | with_reducible refine grew_alloc ?_ | with_reducible refine grew_drew ?_ | (with_reducible refine grew_set ?_ (by first | exact Nat.le_refl _ | omega | (simp [go_sem]; done) | (simp [go_sem]; omega)))))), by (repeat (first | with_reducible exact grew_refl _ | with_reducible assumption | with_reducible refine grew_split ?_ | with_reducible refine grew_mk ?_ | with_reducible refine grew_plus ?_ | with_reducible refine grew_alloc ?_ | with_reducible refine grew_drew ?_ | (with_reducible refine grew_set ?_ (by first | exact Nat.le_refl _ | omega | (simp [go_sem]; done) | (simp [go_sem]; omega)))))⟩
        case measure => simp [intOf]; omega
      · have HC := hid (HYES.out hch)
        have HCH := hid hch
        clear hch
        go_wp2_with fail
        refine (i_isDone r _).mono ?_
        rw [HCH.out]
        (rintro e w' ⟨rfl, gx, rfl⟩)
        have hg := HW.out
        go_wp2_with (at_builtin; go_loud (refine wpList_appB (B := w.heap.size) rfl _ _ _ rfl 40 6 56 _ Tryd.underlying26 area_info rfl (by omega) (by omega) _ c1 (chTo doneR l k) (chTo doneR l k).length rfl rfl (HO.out.grew (by (repeat (first | with_reducible exact grew_refl _ | with_reducible assumption | with_reducible refine grew_split ?_ | with_reducible refine grew_mk ?_ | with_reducible refine grew_plus ?_ | with_reducible refine grew_alloc ?_ | with_reducible refine grew_drew ?_ | (with_reducible refine grew_set ?_ (by first | exact Nat.le_refl _ | omega | (simp [go_sem]; done) | (simp [go_sem]; omega))))))) (by have h := (below_of_grew HW.out).size; first | (simp [go_sem]; done) | (simp [go_sem]; omega) | (simp [go_sem, Ext.add]; done) | (simp [go_sem, Ext.add]; omega) | omega) (by omega) _ r _ rfl rfl (by intro j u hj; match j, hj with | 0, hj => simp [AreaR.row] at hj; subst hj; simp [Addr.add, go_sem] | 1, hj => simp [AreaR.row] at hj; subst hj; simp [Addr.add, go_sem] | 2, hj => simp [AreaR.row] at hj; subst hj; simp [Addr.add, go_sem] | 3, hj => simp [AreaR.row] at hj; subst hj; simp [Addr.add, go_sem] | 4, hj => simp [AreaR.row] at hj; subst hj; simp [Addr.add, go_sem] | 5, hj => simp [AreaR.row] at hj; subst hj; simp [Addr.add, go_sem]) (AreaR.one' _) ?_); intro A3 c3 w3 hO3 hg3 hat3)
        obtain ⟨g3, cur3, rfl, _⟩ := hO3.open_ (fun _ => rfl) (by simp)
        have HO3 := hid hO3
        have HO4 := hid ((HO2.out.grew (by (repeat (first | with_reducible exact grew_refl _ | with_reducible assumption | with_reducible refine grew_split ?_ | with_reducible refine grew_mk ?_ | with_reducible refine grew_plus ?_ | with_reducible refine grew_alloc ?_ | with_reducible refine grew_drew ?_ | (with_reducible refine grew_set ?_ (by first | exact Nat.le_refl _ | omega | (simp [go_sem]; done) | (simp [go_sem]; omega))))))).keptD (HO.out.grew (by (repeat (first | with_reducible exact grew_refl _ | with_reducible assumption | with_reducible refine grew_split ?_ | with_reducible refine grew_mk ?_ | with_reducible refine grew_plus ?_ | with_reducible refine grew_alloc ?_ | with_reducible refine grew_drew ?_ | (with_reducible refine grew_set ?_ (by first | exact Nat.le_refl _ | omega | (simp [go_sem]; done) | (simp [go_sem]; omega))))))) (by decide) hg3)
        have HW3 := hid (grew_own (w0 := w) (by (repeat (first | with_reducible exact grew_refl _ | with_reducible assumption | with_reducible refine grew_split ?_ | with_reducible refine grew_mk ?_ | with_reducible refine grew_plus ?_ | with_reducible refine grew_alloc ?_ | with_reducible refine grew_drew ?_ | (with_reducible refine grew_set ?_ (by first | exact Nat.le_refl _ | omega | (simp [go_sem]; done) | (simp [go_sem]; omega)))))) hg3 (fun a ha => (HO.out.ne a ha).1))
        clear hO3 hg3 hat3
        go_roundw
        case rel => exact ⟨k + 1, g3, c3, c2, A2, by omega, by go_num, vsl (by rw [HC.out]; simp), by rw [HC.out]; exact HO3.out, HO4.out, HW3.out⟩
        case measure => simp [intOf]; omega
    · obtain rfl : k = l.length := by omega
      have hR : chTo doneR l l.length = l.filter doneR := chTo_all _ _
      rw [hR] at HO hcl
      have hfo : ∀ r ∈ l.filter doneR, r.ok = true := fun r hr => by
        obtain ⟨i, hi, rfl⟩ := List.mem_iff_getElem.1 (List.mem_filter.1 hr).1
        exact areasB_ok HG.out hi
      obtain ⟨cur, hb1, hK, hlc, hcm, hcs, hF⟩ := HO.out.open1 (fun _ => rfl)
      have hst := i_stDone (l.filter doneR) g1 c1 cur wr hK hF (by rw [hcs]; omega) (by omega) hfo
      rw [← ordF] at hst
      have HM := hid (ordF_len doneR gtNo l)
      have hml := ordF_len doneR gtNo l
      have hfl : (l.filter doneR).length = (ordF doneR gtNo l).length := (insAll_len _ _).symm
      rw [hR]
      generalize hM : ordF doneR gtNo l = M at hst hml hfl
      rw [hfl] at hst ⊢
      have HST := hid hst
      have HFL := hid hfl
      have HMM := hid hM
      clear hst hfl hK hF hcs hR hfo hg hM
      go_wp2_with fail
      refine HST.out.mono ?_
      rintro e w2 ⟨rfl, ⟨cs2, hB2, hz2, hF2⟩, hg2⟩
      have hO4 := HO2.out.keptD HO.out (n := 0) (d := 0) (by decide) hg2
      have hw2 := grew_grown (w0 := w) HW.out hg2 (by intro q hq; injection hq with hq; omega)
      have HB2 := hid hB2
      have HF2 := hid hF2
      have HO4 := hid hO4
      have HW2 := hid hw2
      clear hB2 hz2 hF2 hg2 hO4 hw2
      go_wp2_with fail
      go_loopw [8, 34, 12] (fun o i _ wr => ∃ (k c2 : Nat) (A2 : Option Addr), k ≤ M.length ∧ i = .int .i64 k ∧ o = .slice A2 k c2 ∧ Own w.heap.size 9 1 strRow wr A2 c2 ((M.take k).map AreaR.nm) ∧ Blk wr g1 40 cs2 ∧ ∃ g, wr = plus w g) (fun _ i _ _ => M.length - (intOf i).toNat)
      case atStart => exact ⟨0, 0, _, Nat.zero_le _, rfl, rfl, HO4.out, HB2.out, HW2.out⟩
      case round =>
        obtain ⟨k, c3, A3, hk, rfl, rfl, hO, hB, hg⟩ := hrel
        have HO := hid hO
        have HB := hid hB
        have HW := hid hg
        clear hO
        by_cases hlt : k < M.length
        · obtain ⟨hc0, hc1, hc2, hc3, hc4, hc5⟩ := area_cells HB.out HF2.out hlt rfl
          have hsn : (M.take (k + 1)).map AreaR.nm = (M.take k).map AreaR.nm ++ [M[k].nm] := by rw [List.take_succ_eq_append_getElem hlt, List.map_append]; rfl
          generalize hr : M[k] = r at hc0 hc1 hc2 hc3 hc4 hc5 hsn
          have HSN := hid hsn
          have hgl := hB.lt
          clear hsn hr hB
          go_wp2_with (at_builtin; go_loud (refine wpList_appB (B := w.heap.size) rfl _ _ _ rfl 9 1 16 _ Tryd.underlying33 str_info rfl (by omega) (by omega) A3 c3 ((M.take k).map AreaR.nm) k (by simp; omega) rfl (HO.out.grew (by (repeat (first | with_reducible exact grew_refl _ | with_reducible assumption | with_reducible refine grew_split ?_ | with_reducible refine grew_mk ?_ | with_reducible refine grew_plus ?_ | with_reducible refine grew_alloc ?_ | with_reducible refine grew_drew ?_ | (with_reducible refine grew_set ?_ (by first | exact Nat.le_refl _ | omega | (simp [go_sem]; done) | (simp [go_sem]; omega))))))) (by have h := (below_of_grew HW.out).size; first | (simp [go_sem]; done) | (simp [go_sem]; omega) | (simp [go_sem, Ext.add]; done) | (simp [go_sem, Ext.add]; omega) | omega) (by simp; omega) _ r.nm _ rfl rfl (by intro j u hj; match j, hj with | 0, hj => simp [strRow] at hj; subst hj; simp [Addr.add, go_sem]) (strRow_one _) ?_); intro A4 c4 w4 hO4 hg4 hat4)
          have HO4 := hid hO4
          have HB4 := hid (blk_keptD (blk_grew HB.out (by (repeat (first | with_reducible exact grew_refl _ | with_reducible assumption | with_reducible refine grew_split ?_ | with_reducible refine grew_mk ?_ | with_reducible refine grew_plus ?_ | with_reducible refine grew_alloc ?_ | with_reducible refine grew_drew ?_ | (with_reducible refine grew_set ?_ (by first | exact Nat.le_refl _ | omega | (simp [go_sem]; done) | (simp [go_sem]; omega))))))) (HO.out.grew (by (repeat (first | with_reducible exact grew_refl _ | with_reducible assumption | with_reducible refine grew_split ?_ | with_reducible refine grew_mk ?_ | with_reducible refine grew_plus ?_ | with_reducible refine grew_alloc ?_ | with_reducible refine grew_drew ?_ | (with_reducible refine grew_set ?_ (by first | exact Nat.le_refl _ | omega | (simp [go_sem]; done) | (simp [go_sem]; omega))))))) (by decide) hg4)
          have HW4 := hid (grew_own (w0 := w) (by (repeat (first | with_reducible exact grew_refl _ | with_reducible assumption | with_reducible refine grew_split ?_ | with_reducible refine grew_mk ?_ | with_reducible refine grew_plus ?_ | with_reducible refine grew_alloc ?_ | with_reducible refine grew_drew ?_ | (with_reducible refine grew_set ?_ (by first | exact Nat.le_refl _ | omega | (simp [go_sem]; done) | (simp [go_sem]; omega)))))) hg4 (fun a ha => (HO.out.ne a ha).1))
          clear hO4 hg4 hat4
          go_roundw
          case rel => exact ⟨k + 1, c4, A4, by omega, by go_num, rfl, by rw [HSN.out]; exact HO4.out, HB4.out, HW4.out⟩
          case measure => simp [intOf]; omega
        · obtain rfl : k = M.length := by omega
          go_wp2_with fail
          go_ret
          have h := HO.out
          rw [List.take_length] at h
          rw [HMM.out]
          exact ⟨⟨A3, c3, by simp, h.f strRow_len⟩, hg⟩
set_option maxHeartbeats 4000000 in
set_option maxRecDepth 10000 in
theorem i_namesWork (l : List AreaR) (A : Option Addr) (c : Nat) (w : World) (hA : Sl w 6 AreaR.row A l) (hg : areasB l = true) :
    Calls Tryd.prog 38 #[.slice A l.length c, .func (.func 39) #[] #[], .func (.func 41) #[] #[]] w fun e w' => (∃ A' c', e = .returned (.slice A' ((ordF undone gtWo l).map AreaR.nm).length c') ∧ OwnF w.heap.size 9 1 strRow w' A' ((ordF undone gtWo l).map AreaR.nm)) ∧ ∃ g, w' = plus w g := by
  have HA := hid hA
  have HG := hid hg
  have hl := areasB_len hg
  clear hA hg
  go_enter Tryd.func38, Tryd.ntmps38
  go_wp2_with fail
  go_loopw [7, 17, 10] (fun o i _ wr => ∃ (k g1 c1 c2 : Nat) (A2 : Option Addr), k ≤ l.length ∧ i = .int .i64 k ∧ o = .slice (some ⟨g1, 0, none⟩) (chTo undone l k).length c1 ∧ Own w.heap.size 40 6 AreaR.row wr (some ⟨g1, 0, none⟩) c1 (chTo undone l k) ∧ Own w.heap.size 9 1 strRow wr (some ⟨w.heap.size + 1, 0, none⟩) 0 [] ∧ ∃ g, wr = plus w g) (fun _ i _ _ => l.length - (intOf i).toNat)
  case atStart => exact ⟨0, w.heap.size, 0, 0, some ⟨w.heap.size + 1, 0, none⟩, Nat.zero_le _, rfl, rfl, (Own.new (o := .cells #[] 40) rfl rfl (Nat.le_refl _)).grew (by (repeat (first | with_reducible exact grew_refl _ | with_reducible assumption | with_reducible refine grew_split ?_ | with_reducible refine grew_mk ?_ | with_reducible refine grew_plus ?_ | with_reducible refine grew_alloc ?_ | with_reducible refine grew_drew ?_ | (with_reducible refine grew_set ?_ (by first | exact Nat.le_refl _ | omega | (simp [go_sem]; done) | (simp [go_sem]; omega)))))), Own.newIn (w := w.alloc (.cells #[] 40)) (o := .cells #[] 9) (by (repeat (first | with_reducible exact grew_refl _ | with_reducible assumption | with_reducible refine grew_split ?_ | with_reducible refine grew_mk ?_ | with_reducible refine grew_plus ?_ | with_reducible refine grew_alloc ?_ | with_reducible refine grew_drew ?_ | (with_reducible refine grew_set ?_ (by first | exact Nat.le_refl _ | omega | (simp [go_sem]; done) | (simp [go_sem]; omega)))))) rfl (by simp) (by simp), by (repeat (first | with_reducible exact grew_refl _ | with_reducible assumption | with_reducible refine grew_split ?_ | with_reducible refine grew_mk ?_ | with_reducible refine grew_plus ?_ | with_reducible refine grew_alloc ?_ | with_reducible refine grew_drew ?_ | (with_reducible refine grew_set ?_ (by first | exact Nat.le_refl _ | omega | (simp [go_sem]; done) | (simp [go_sem]; omega)))))⟩
  case round =>
    obtain ⟨k, g1, c1, c2, A2, hk, rfl, rfl, hO, hO2, hg⟩ := hrel
    have HO := hid hO
    have HO2 := hid hO2
    have HW := hid hg
    have hcl := chTo_len undone l k
    clear hO hO2
    by_cases hlt : k < l.length
    · obtain ⟨b0, off, rfl, hb0, hc⟩ := (HA.out.grew hg).at_ hlt
      obtain ⟨hc0, hc1, hc2, hc3, hc4, hc5⟩ := AreaR.cells6 hc hlt
      have hok := areasB_ok HG.out hlt
      have hyes := fun h => chTo_yes (ch := undone) hlt h
      have hnot := fun h => chTo_no (ch := undone) hlt h
      generalize hr : l[k] = r at hc0 hc1 hc2 hc3 hc4 hc5 hok hyes hnot
      have HOK := hid hok
      have HYES := hid hyes
      have HNOT := hid hnot
      clear hc hok hyes hnot hr hg
      cases hch : undone r
      · have HC := hid (HNOT.out hch)
        have HCH := hid hch
        clear hch
        go_wp2_with fail
        refine (i_Work1 r _).mono ?_
        rw [HCH.out]
        (rintro e w' ⟨rfl, gx, rfl⟩)
        have hg := HW.out
        go_wp2_with fail
        go_roundw
        case rel => exact ⟨k + 1, g1, c1, c2, A2, by omega, by go_num, vsl (by rw [HC.out]), by rw [HC.out]; exact HO.out.grew (by (repeat (first | with_reducible exact grew_refl _ | with_reducible assumption | with_reducible refine grew_split ?_ | with_reducible refine grew_mk ?_ | with_reducible refine grew_plus ?_ | with_reducible refine grew_alloc ?_ | with_reducible refine grew_drew ?_ | (with_reducible refine grew_set ?_ (by first | exact Nat.le_refl _ | omega | (simp [go_sem]; done) | (simp [go_sem]; omega)))))), HO2.out.grew (by (repeat (first | with_reducible exact grew_refl _ | with_reducible assumption | with_reducible refine grew_split ?_ | with_reducible refine grew_mk ?_ | with_reducible refine grew_plus ?_ | with_reducible refine grew_alloc ?_ | with_reducible refine grew_drew ?_ | (with_reducible refine grew_set ?_ (by first | exact Nat.le_refl _ | omega | (simp [go_sem]; done) | (simp [go_sem]; omega)))))), by (repeat (first | with_reducible exact grew_refl _ | with_reducible assumption | with_reducible refine grew_split ?_ | with_reducible refine grew_mk ?_ | with_reducible refine grew_plus ?_ | with_reducible refine grew_alloc ?_ | with_reducible refine grew_drew ?_ | (with_reducible refine grew_set ?_ (by first | exact Nat.le_refl _ | omega | (simp [go_sem]; done) | (simp [go_sem]; omega)))))⟩
        case measure => simp [intOf]; omega
      · have HC := hid (HYES.out hch)
        have HCH := hid hch
        clear hch
        go_wp2_with fail
        refine (i_Work1 r _).mono ?_
        rw [HCH.out]
        (rintro e w' ⟨rfl, gx, rfl⟩)
        have hg := HW.out
        go_wp2_with (at_builtin; go_loud (refine wpList_appB (B := w.heap.size) rfl _ _ _ rfl 40 6 56 _ Tryd.underlying26 area_info rfl (by omega) (by omega) _ c1 (chTo undone l k) (chTo undone l k).length rfl rfl (HO.out.grew (by (repeat (first | with_reducible exact grew_refl _ | with_reducible assumption | with_reducible refine grew_split ?_ | with_reducible refine grew_mk ?_ | with_reducible refine grew_plus ?_ | with_reducible refine grew_alloc ?_ | with_reducible refine grew_drew ?_ | (with_reducible refine grew_set ?_ (by first | exact Nat.le_refl _ | omega | (simp [go_sem]; done) | (simp [go_sem]; omega))))))) (by have h := (below_of_grew HW.out).size; first | (simp [go_sem]; done) | (simp [go_sem]; omega) | (simp [go_sem, Ext.add]; done) | (simp [go_sem, Ext.add]; omega) | omega) (by omega) _ r _ rfl rfl (by intro j u hj; match j, hj with | 0, hj => simp [AreaR.row] at hj; subst hj; simp [Addr.add, go_sem] | 1, hj => simp [AreaR.row] at hj; subst hj; simp [Addr.add, go_sem] | 2, hj => simp [AreaR.row] at hj; subst hj; simp [Addr.add, go_sem] | 3, hj => simp [AreaR.row] at hj; subst hj; simp [Addr.add, go_sem] | 4, hj => simp [AreaR.row] at hj; subst hj; simp [Addr.add, go_sem] | 5, hj => simp [AreaR.row] at hj; subst hj; simp [Addr.add, go_sem]) (AreaR.one' _) ?_); intro A3 c3 w3 hO3 hg3 hat3)
        obtain ⟨g3, cur3, rfl, _⟩ := hO3.open_ (fun _ => rfl) (by simp)
        have HO3 := hid hO3
        have HO4 := hid ((HO2.out.grew (by (repeat (first | with_reducible exact grew_refl _ | with_reducible assumption | with_reducible refine grew_split ?_ | with_reducible refine grew_mk ?_ | with_reducible refine grew_plus ?_ | with_reducible refine grew_alloc ?_ | with_reducible refine grew_drew ?_ | (with_reducible refine grew_set ?_ (by first | exact Nat.le_refl _ | omega | (simp [go_sem]; done) | (simp [go_sem]; omega))))))).keptD (HO.out.grew (by (repeat (first | with_reducible exact grew_refl _ | with_reducible assumption | with_reducible refine grew_split ?_ | with_reducible refine grew_mk ?_ | with_reducible refine grew_plus ?_ | with_reducible refine grew_alloc ?_ | with_reducible refine grew_drew ?_ | (with_reducible refine grew_set ?_ (by first | exact Nat.le_refl _ | omega | (simp [go_sem]; done) | (simp [go_sem]; omega))))))) (by decide) hg3)
        have HW3 := hid (grew_own (w0 := w) (by (repeat (first | with_reducible exact grew_refl _ | with_reducible assumption | with_reducible refine grew_split ?_ | with_reducible refine grew_mk ?_ | with_reducible refine grew_plus ?_ | with_reducible refine grew_alloc ?_ | with_reducible refine grew_drew ?_ | (with_reducible refine grew_set ?_ (by first | exact Nat.le_refl _ | omega | (simp [go_sem]; done) | (simp [go_sem]; omega)))))) hg3 (fun a ha => (HO.out.ne a ha).1))
        clear hO3 hg3 hat3
        go_roundw
        case rel => exact ⟨k + 1, g3, c3, c2, A2, by omega, by go_num, vsl (by rw [HC.out]; simp), by rw [HC.out]; exact HO3.out, HO4.out, HW3.out⟩
        case measure => simp [intOf]; omega
    · obtain rfl : k = l.length := by omega
      have hR : chTo undone l l.length = l.filter undone := chTo_all _ _
      rw [hR] at HO hcl
      have hfo : ∀ r ∈ l.filter undone, r.ok = true := fun r hr => by
        obtain ⟨i, hi, rfl⟩ := List.mem_iff_getElem.1 (List.mem_filter.1 hr).1
        exact areasB_ok HG.out hi
      obtain ⟨cur, hb1, hK, hlc, hcm, hcs, hF⟩ := HO.out.open1 (fun _ => rfl)
      have hst := i_stWork (l.filter undone) g1 c1 cur wr hK hF (by rw [hcs]; omega) (by omega) hfo
      rw [← ordF] at hst
      have HM := hid (ordF_len undone gtWo l)
      have hml := ordF_len undone gtWo l
      have hfl : (l.filter undone).length = (ordF undone gtWo l).length := (insAll_len _ _).symm
      rw [hR]
      generalize hM : ordF undone gtWo l = M at hst hml hfl
      rw [hfl] at hst ⊢
      have HST := hid hst
      have HFL := hid hfl
      have HMM := hid hM
      clear hst hfl hK hF hcs hR hfo hg hM
      go_wp2_with fail
      refine HST.out.mono ?_
      rintro e w2 ⟨rfl, ⟨cs2, hB2, hz2, hF2⟩, hg2⟩
      have hO4 := HO2.out.keptD HO.out (n := 0) (d := 0) (by decide) hg2
      have hw2 := grew_grown (w0 := w) HW.out hg2 (by intro q hq; injection hq with hq; omega)
      have HB2 := hid hB2
      have HF2 := hid hF2
      have HO4 := hid hO4
      have HW2 := hid hw2
      clear hB2 hz2 hF2 hg2 hO4 hw2
      go_wp2_with fail
      go_loopw [8, 34, 12] (fun o i _ wr => ∃ (k c2 : Nat) (A2 : Option Addr), k ≤ M.length ∧ i = .int .i64 k ∧ o = .slice A2 k c2 ∧ Own w.heap.size 9 1 strRow wr A2 c2 ((M.take k).map AreaR.nm) ∧ Blk wr g1 40 cs2 ∧ ∃ g, wr = plus w g) (fun _ i _ _ => M.length - (intOf i).toNat)
      case atStart => exact ⟨0, 0, _, Nat.zero_le _, rfl, rfl, HO4.out, HB2.out, HW2.out⟩
      case round =>
        obtain ⟨k, c3, A3, hk, rfl, rfl, hO, hB, hg⟩ := hrel
        have HO := hid hO
        have HB := hid hB
        have HW := hid hg
        clear hO
        by_cases hlt : k < M.length
        · obtain ⟨hc0, hc1, hc2, hc3, hc4, hc5⟩ := area_cells HB.out HF2.out hlt rfl
          have hsn : (M.take (k + 1)).map AreaR.nm = (M.take k).map AreaR.nm ++ [M[k].nm] := by rw [List.take_succ_eq_append_getElem hlt, List.map_append]; rfl
          generalize hr : M[k] = r at hc0 hc1 hc2 hc3 hc4 hc5 hsn
          have HSN := hid hsn
          have hgl := hB.lt
          clear hsn hr hB
          go_wp2_with (at_builtin; go_loud (refine wpList_appB (B := w.heap.size) rfl _ _ _ rfl 9 1 16 _ Tryd.underlying33 str_info rfl (by omega) (by omega) A3 c3 ((M.take k).map AreaR.nm) k (by simp; omega) rfl (HO.out.grew (by (repeat (first | with_reducible exact grew_refl _ | with_reducible assumption | with_reducible refine grew_split ?_ | with_reducible refine grew_mk ?_ | with_reducible refine grew_plus ?_ | with_reducible refine grew_alloc ?_ | with_reducible refine grew_drew ?_ | (with_reducible refine grew_set ?_ (by first | exact Nat.le_refl _ | omega | (simp [go_sem]; done) | (simp [go_sem]; omega))))))) (by have h := (below_of_grew HW.out).size; first | (simp [go_sem]; done) | (simp [go_sem]; omega) | (simp [go_sem, Ext.add]; done) | (simp [go_sem, Ext.add]; omega) | omega) (by simp; omega) _ r.nm _ rfl rfl (by intro j u hj; match j, hj with | 0, hj => simp [strRow] at hj; subst hj; simp [Addr.add, go_sem]) (strRow_one _) ?_); intro A4 c4 w4 hO4 hg4 hat4)
          have HO4 := hid hO4
          have HB4 := hid (blk_keptD (blk_grew HB.out (by (repeat (first | with_reducible exact grew_refl _ | with_reducible assumption | with_reducible refine grew_split ?_ | with_reducible refine grew_mk ?_ | with_reducible refine grew_plus ?_ | with_reducible refine grew_alloc ?_ | with_reducible refine grew_drew ?_ | (with_reducible refine grew_set ?_ (by first | exact Nat.le_refl _ | omega | (simp [go_sem]; done) | (simp [go_sem]; omega))))))) (HO.out.grew (by (repeat (first | with_reducible exact grew_refl _ | with_reducible assumption | with_reducible refine grew_split ?_ | with_reducible refine grew_mk ?_ | with_reducible refine grew_plus ?_ | with_reducible refine grew_alloc ?_ | with_reducible refine grew_drew ?_ | (with_reducible refine grew_set ?_ (by first | exact Nat.le_refl _ | omega | (simp [go_sem]; done) | (simp [go_sem]; omega))))))) (by decide) hg4)
          have HW4 := hid (grew_own (w0 := w) (by (repeat (first | with_reducible exact grew_refl _ | with_reducible assumption | with_reducible refine grew_split ?_ | with_reducible refine grew_mk ?_ | with_reducible refine grew_plus ?_ | with_reducible refine grew_alloc ?_ | with_reducible refine grew_drew ?_ | (with_reducible refine grew_set ?_ (by first | exact Nat.le_refl _ | omega | (simp [go_sem]; done) | (simp [go_sem]; omega)))))) hg4 (fun a ha => (HO.out.ne a ha).1))
          clear hO4 hg4 hat4
          go_roundw
          case rel => exact ⟨k + 1, c4, A4, by omega, by go_num, rfl, by rw [HSN.out]; exact HO4.out, HB4.out, HW4.out⟩
          case measure => simp [intOf]; omega
        · obtain rfl : k = M.length := by omega
          go_wp2_with fail
          go_ret
          have h := HO.out
          rw [List.take_length] at h
          rw [HMM.out]
          exact ⟨⟨A3, c3, by simp, h.f strRow_len⟩, hg⟩
set_option maxHeartbeats 1000000 in
theorem i_DoneAreas (l : List AreaR) (A : Option Addr) (c : Nat) (w : World) (hA : Sl w 6 AreaR.row A l) (hs : ∀ r ∈ l, r.nm.size ≤ maxLen) (hl : l.length ≤ maxLen) :
    Calls Tryd.prog 15 #[.slice A l.length c] w fun e w' => NamesPost w.heap.size (namesF doneR gtNo l) e w' ∧ ∃ g, w' = plus w g := by
  have HA := hid hA
  have HS := hid hs
  clear hA hs
  cases hg : areasB l
  · rw [namesF_bad hg]
    have HG := hid hg
    clear hg
    go_enter Tryd.func15, Tryd.ntmps15
    go_wp2_with fail
    refine (i_AreAreaRows l _ _ _ HG.out _ HA.out HS.out hl).mono ?_
    (rintro e w' ⟨rfl, gx, rfl⟩)
    go_wp2_with fail
    go_ret2
    exact ⟨NamesPost.no, by (repeat (first | with_reducible exact grew_refl _ | with_reducible assumption | with_reducible refine grew_split ?_ | with_reducible refine grew_mk ?_ | with_reducible refine grew_plus ?_ | with_reducible refine grew_alloc ?_ | with_reducible refine grew_drew ?_ | (with_reducible refine grew_set ?_ (by first | exact Nat.le_refl _ | omega | (simp [go_sem]; done) | (simp [go_sem]; omega)))))⟩
  · rw [namesF_good hg]
    have HG := hid hg
    clear hg
    go_enter Tryd.func15, Tryd.ntmps15
    go_wp2_with fail
    refine (i_AreAreaRows l _ _ _ HG.out _ HA.out HS.out hl).mono ?_
    (rintro e w' ⟨rfl, gx, rfl⟩)
    go_wp2_with fail
    refine (i_namesDone l A c _ (HA.out.grew (by (repeat (first | with_reducible exact grew_refl _ | with_reducible assumption | with_reducible refine grew_split ?_ | with_reducible refine grew_mk ?_ | with_reducible refine grew_plus ?_ | with_reducible refine grew_alloc ?_ | with_reducible refine grew_drew ?_ | (with_reducible refine grew_set ?_ (by first | exact Nat.le_refl _ | omega | (simp [go_sem]; done) | (simp [go_sem]; omega))))))) HG.out).mono ?_
    rintro e w' ⟨⟨A1, c1, rfl, hO⟩, g1, rfl⟩
    (try rw [plus_plus] at hO)
    have HO := hid hO
    clear hO
    go_wp2_with fail
    go_ret2
    exact ⟨⟨A1, c1, ret_slw (by simp) rfl, HO.out.less (by first | (simp [go_sem]; done) | (simp [go_sem]; omega) | (simp [go_sem, Ext.add]; done) | (simp [go_sem, Ext.add]; omega) | omega)⟩, by (repeat (first | with_reducible exact grew_refl _ | with_reducible assumption | with_reducible refine grew_split ?_ | with_reducible refine grew_mk ?_ | with_reducible refine grew_plus ?_ | with_reducible refine grew_alloc ?_ | with_reducible refine grew_drew ?_ | (with_reducible refine grew_set ?_ (by first | exact Nat.le_refl _ | omega | (simp [go_sem]; done) | (simp [go_sem]; omega)))))⟩
set_option maxHeartbeats 1000000 in
theorem i_WorkOrder (l : List AreaR) (A : Option Addr) (c : Nat) (w : World) (hA : Sl w 6 AreaR.row A l) (hs : ∀ r ∈ l, r.nm.size ≤ maxLen) (hl : l.length ≤ maxLen) :
    Calls Tryd.prog 12 #[.slice A l.length c] w fun e w' => NamesPost w.heap.size (namesF undone gtWo l) e w' ∧ ∃ g, w' = plus w g := by
  have HA := hid hA
  have HS := hid hs
  clear hA hs
  cases hg : areasB l
  · rw [namesF_bad hg]
    have HG := hid hg
    clear hg
    go_enter Tryd.func12, Tryd.ntmps12
    go_wp2_with fail
    refine (i_AreAreaRows l _ _ _ HG.out _ HA.out HS.out hl).mono ?_
    (rintro e w' ⟨rfl, gx, rfl⟩)
    go_wp2_with fail
    go_ret2
    exact ⟨NamesPost.no, by (repeat (first | with_reducible exact grew_refl _ | with_reducible assumption | with_reducible refine grew_split ?_ | with_reducible refine grew_mk ?_ | with_reducible refine grew_plus ?_ | with_reducible refine grew_alloc ?_ | with_reducible refine grew_drew ?_ | (with_reducible refine grew_set ?_ (by first | exact Nat.le_refl _ | omega | (simp [go_sem]; done) | (simp [go_sem]; omega)))))⟩
  · rw [namesF_good hg]
    have HG := hid hg
    clear hg
    go_enter Tryd.func12, Tryd.ntmps12
    go_wp2_with fail
    refine (i_AreAreaRows l _ _ _ HG.out _ HA.out HS.out hl).mono ?_
    (rintro e w' ⟨rfl, gx, rfl⟩)
    go_wp2_with fail
    refine (i_namesWork l A c _ (HA.out.grew (by (repeat (first | with_reducible exact grew_refl _ | with_reducible assumption | with_reducible refine grew_split ?_ | with_reducible refine grew_mk ?_ | with_reducible refine grew_plus ?_ | with_reducible refine grew_alloc ?_ | with_reducible refine grew_drew ?_ | (with_reducible refine grew_set ?_ (by first | exact Nat.le_refl _ | omega | (simp [go_sem]; done) | (simp [go_sem]; omega))))))) HG.out).mono ?_
    rintro e w' ⟨⟨A1, c1, rfl, hO⟩, g1, rfl⟩
    (try rw [plus_plus] at hO)
    have HO := hid hO
    clear hO
    go_wp2_with fail
    go_ret2
    exact ⟨⟨A1, c1, ret_slw (by simp) rfl, HO.out.less (by first | (simp [go_sem]; done) | (simp [go_sem]; omega) | (simp [go_sem, Ext.add]; done) | (simp [go_sem, Ext.add]; omega) | omega)⟩, by (repeat (first | with_reducible exact grew_refl _ | with_reducible assumption | with_reducible refine grew_split ?_ | with_reducible refine grew_mk ?_ | with_reducible refine grew_plus ?_ | with_reducible refine grew_alloc ?_ | with_reducible refine grew_drew ?_ | (with_reducible refine grew_set ?_ (by first | exact Nat.le_refl _ | omega | (simp [go_sem]; done) | (simp [go_sem]; omega)))))⟩
end Go.Proofs.YteogidghoohgaaaDoor
