/- ShareOfAll in both packages. -/
import Derived.Test.YteogidghoohgaaaDoorA5
namespace Go.Proofs.YteogidghoohgaaaDoor
open Go.RowKit

def covTo (l : List AreaR) (k : Nat) : Nat := ((l.take k).map fun r => r.cov.toNat).sum
def cellsTo (l : List AreaR) (k : Nat) : Nat := ((l.take k).map fun r => r.cells.toNat).sum
theorem covTo_succ {l : List AreaR} {k : Nat} (h : k < l.length) : covTo l (k + 1) = covTo l k + l[k].cov.toNat := by
  unfold covTo; rw [List.take_succ_eq_append_getElem h, List.map_append, List.sum_append]; rfl
theorem cellsTo_succ {l : List AreaR} {k : Nat} (h : k < l.length) : cellsTo l (k + 1) = cellsTo l k + l[k].cells.toNat := by
  unfold cellsTo; rw [List.take_succ_eq_append_getElem h, List.map_append, List.sum_append]; rfl
/-- The share of a good list that is not empty, else zeros. -/
def shareF (l : List AreaR) : Nat × Nat × Bool :=
  if areasB l && !l.isEmpty then (covTo l l.length / Nat.gcd (covTo l l.length) (cellsTo l l.length), cellsTo l l.length / Nat.gcd (covTo l l.length) (cellsTo l l.length), true) else (0, 0, false)
theorem shareF_bad {l : List AreaR} (h : areasB l = false) : shareF l = (0, 0, false) := by simp [shareF, h]
theorem shareF_empty {l : List AreaR} (h : l.length = 0) : shareF l = (0, 0, false) := by
  have := List.eq_nil_of_length_eq_zero h
  subst this; simp [shareF]
theorem shareF_good {l : List AreaR} (h : areasB l = true) (h0 : 0 < l.length) : shareF l = (covTo l l.length / Nat.gcd (covTo l l.length) (cellsTo l l.length), cellsTo l l.length / Nat.gcd (covTo l l.length) (cellsTo l l.length), true) := by
  rw [shareF, h]
  cases l with
  | nil => simp at h0
  | cons a r => rfl
theorem tos_bound {l : List AreaR} (h : areasB l = true) : ∀ k, k ≤ l.length → covTo l k ≤ cellsTo l k ∧ cellsTo l k ≤ 9999 * k ∧ k ≤ cellsTo l k := by
  intro k
  induction k with
  | zero => intro _; simp [covTo, cellsTo]
  | succ k ih =>
    intro hk
    have := ih (by omega)
    obtain ⟨b1, b2, b3, b4, _⟩ := AreaR.bounds (areasB_ok h (show k < l.length by omega))
    rw [covTo_succ (by omega), cellsTo_succ (by omega)]
    omega
theorem ret_iib {a b c d : Int} {e f : Bool} (h : a = b) (h' : c = d) (h'' : e = f) : Ending.returned (.tuple #[.int .i64 a, .int .i64 c, .bool e]) = .returned (.tuple #[.int .i64 b, .int .i64 d, .bool f]) := by rw [h, h', h'']

set_option maxHeartbeats 1000000 in
theorem i_ShareOfAll (l : List AreaR) (A : Option Addr) (c : Nat) (w : World) (hA : Sl w 6 AreaR.row A l) (hs : ∀ r ∈ l, r.nm.size ≤ maxLen) (hl : l.length ≤ maxLen) :
    Calls Tryd.prog 23 #[.slice A l.length c] w fun e' w' => e' = .returned (.tuple #[.int .i64 (shareF l).1, .int .i64 (shareF l).2.1, .bool (shareF l).2.2]) ∧ ∃ g, w' = plus w g := by
  have HS := hid hs
  have HA := hid hA
  cases hgood : areasB l
  · have HF := hid (shareF_bad hgood)
    clear hs hA
    go_enter Tryd.func23, Tryd.ntmps23
    go_wp2_with (go_at_call 17; refine (i_AreAreaRows l _ _ _ hgood _ (by (first | with_reducible exact HA.out | with_reducible exact HA.out.plus _ | with_reducible exact HA.out.add _ | with_reducible exact (HA.out.add _).add _ | with_reducible exact ((HA.out.add _).add _).add _ | with_reducible exact (((HA.out.add _).add _).add _).add _ | with_reducible exact ((((HA.out.add _).add _).add _).add _).add _ | with_reducible exact (((((HA.out.add _).add _).add _).add _).add _).add _)) HS.out hl).mono ?_; (rintro e w' ⟨rfl, gx, rfl⟩))
    go_ret3
    exact ⟨ret_iib (by rw [HF.out]; rfl) (by rw [HF.out]; rfl) (by rw [HF.out]), by (repeat (first | with_reducible exact grew_refl _ | with_reducible assumption | with_reducible refine grew_split ?_ | with_reducible refine grew_mk ?_ | with_reducible refine grew_plus ?_ | with_reducible refine grew_alloc ?_ | with_reducible refine grew_drew ?_ | (with_reducible refine grew_set ?_ (by first | exact Nat.le_refl _ | omega | (simp [go_sem]; done) | (simp [go_sem]; omega)))))⟩
  by_cases h0 : l.length = 0
  · have HF := hid (shareF_empty h0)
    have h0' : ((l.length : Int) == 0) = true := by rw [h0]; rfl
    clear hs hA h0
    go_enter Tryd.func23, Tryd.ntmps23
    go_wp2_with (go_at_call 17; refine (i_AreAreaRows l _ _ _ hgood _ (by (first | with_reducible exact HA.out | with_reducible exact HA.out.plus _ | with_reducible exact HA.out.add _ | with_reducible exact (HA.out.add _).add _ | with_reducible exact ((HA.out.add _).add _).add _ | with_reducible exact (((HA.out.add _).add _).add _).add _ | with_reducible exact ((((HA.out.add _).add _).add _).add _).add _ | with_reducible exact (((((HA.out.add _).add _).add _).add _).add _).add _)) HS.out hl).mono ?_; (rintro e w' ⟨rfl, gx, rfl⟩))
    go_ret3
    exact ⟨ret_iib (by rw [HF.out]; rfl) (by rw [HF.out]; rfl) (by rw [HF.out]), by (repeat (first | with_reducible exact grew_refl _ | with_reducible assumption | with_reducible refine grew_split ?_ | with_reducible refine grew_mk ?_ | with_reducible refine grew_plus ?_ | with_reducible refine grew_alloc ?_ | with_reducible refine grew_drew ?_ | (with_reducible refine grew_set ?_ (by first | exact Nat.le_refl _ | omega | (simp [go_sem]; done) | (simp [go_sem]; omega)))))⟩
  · have HF := hid (shareF_good hgood (by omega))
    have h0' : ((l.length : Int) == 0) = false := by rw [beq_eq_false_iff_ne]; omega
    have hlen := areasB_len hgood
    have hz : 0 < l.length := by omega
    clear hs hA h0
    go_enter Tryd.func23, Tryd.ntmps23
    go_wp2_with (go_at_call 17; refine (i_AreAreaRows l _ _ _ hgood _ (by (first | with_reducible exact HA.out | with_reducible exact HA.out.plus _ | with_reducible exact HA.out.add _ | with_reducible exact (HA.out.add _).add _ | with_reducible exact ((HA.out.add _).add _).add _ | with_reducible exact (((HA.out.add _).add _).add _).add _ | with_reducible exact ((((HA.out.add _).add _).add _).add _).add _ | with_reducible exact (((((HA.out.add _).add _).add _).add _).add _).add _)) HS.out hl).mono ?_; (rintro e w' ⟨rfl, gx, rfl⟩))
    go_loopw [5, 6, 21, 8] (fun u v i _ wr => ∃ k : Nat, k ≤ l.length ∧ u = .int .i64 (covTo l k) ∧ v = .int .i64 (cellsTo l k) ∧ i = .int .i64 k ∧ (∃ g, wr = plus w g)) (fun _ _ i _ _ => l.length - (intOf i).toNat)
    case atStart => exact ⟨0, Nat.zero_le _, rfl, rfl, rfl, by (repeat (first | with_reducible exact grew_refl _ | with_reducible assumption | with_reducible refine grew_split ?_ | with_reducible refine grew_mk ?_ | with_reducible refine grew_plus ?_ | with_reducible refine grew_alloc ?_ | with_reducible refine grew_drew ?_ | (with_reducible refine grew_set ?_ (by first | exact Nat.le_refl _ | omega | (simp [go_sem]; done) | (simp [go_sem]; omega)))))⟩
    case round =>
      obtain ⟨k, hk, rfl, rfl, rfl, g, rfl⟩ := hrel
      obtain ⟨t1, t2, t3⟩ := tos_bound hgood k hk
      by_cases hlt : k < l.length
      · have hA := HA.out
        obtain ⟨b, off, rfl, hbb, hc⟩ := hA.at_ hlt
        obtain ⟨hc0, hc1, hc2, hc3, hc4, hc5⟩ := AreaR.cells6 hc hlt
        obtain ⟨b1, b2, b3, b4, _⟩ := AreaR.bounds (areasB_ok hgood hlt)
        have hs1 := hid (covTo_succ hlt)
        have hs2 := hid (cellsTo_succ hlt)
        clear hc hA
        go_wp2
        go_roundw
        case rel => exact ⟨k + 1, by omega, by rw [hs1.out]; go_num, by rw [hs2.out]; go_num, by go_num, by (repeat (first | with_reducible exact grew_refl _ | with_reducible assumption | with_reducible refine grew_split ?_ | with_reducible refine grew_mk ?_ | with_reducible refine grew_plus ?_ | with_reducible refine grew_alloc ?_ | with_reducible refine grew_drew ?_ | (with_reducible refine grew_set ?_ (by first | exact Nat.le_refl _ | omega | (simp [go_sem]; done) | (simp [go_sem]; omega)))))⟩
        case measure => simp [intOf]; omega
      · obtain rfl : k = l.length := by omega
        go_wp2_with (go_at_call 53; refine (i_lowestTerms _ _ _ (by omega) (by omega) (by omega)).mono ?_; (rintro e w' ⟨rfl, gx, rfl⟩))
        go_ret3
        exact ⟨ret_iib (by rw [HF.out]; exact (Int.natCast_ediv _ _).symm) (by rw [HF.out]; exact (Int.natCast_ediv _ _).symm) (by rw [HF.out]), by (repeat (first | with_reducible exact grew_refl _ | with_reducible assumption | with_reducible refine grew_split ?_ | with_reducible refine grew_mk ?_ | with_reducible refine grew_plus ?_ | with_reducible refine grew_alloc ?_ | with_reducible refine grew_drew ?_ | (with_reducible refine grew_set ?_ (by first | exact Nat.le_refl _ | omega | (simp [go_sem]; done) | (simp [go_sem]; omega)))))⟩
end Go.Proofs.YteogidghoohgaaaDoor
