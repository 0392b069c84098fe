/- Looking for an area by its name, in both packages. -/
import Derived.Test.YteogidghoohgaaaDoorA2
namespace Go.Proofs.YteogidghoohgaaaDoor
open Go.RowKit

def nameIs (s : ByteArray) (r : AreaR) : Bool := r.nm.toList == s.toList
/-- Where the first k rows hold no area of that name. -/
def noName (l : List AreaR) (s : ByteArray) (k : Nat) : Bool := allUpto (fun i => if h : i < l.length then !nameIs s l[i] else true) k
def findI (l : List AreaR) (s : ByteArray) : Int := match l.findIdx? (nameIs s) with | some i => i | none => -1
theorem findI_hit {l : List AreaR} {s : ByteArray} {k : Nat} (hk : k < l.length) (h0 : noName l s k = true) (h : nameIs s l[k] = true) : findI l s = k := by
  have : l.findIdx? (nameIs s) = some k := by
    rw [List.findIdx?_eq_some_iff_getElem]
    refine ⟨hk, h, fun j hj => ?_⟩
    have := allUpto_iff.1 h0 j hj
    simp only [show j < l.length by omega, ↓reduceDIte, Bool.not_eq_true'] at this
    simp [this]
  simp [findI, this]
theorem findI_none {l : List AreaR} {s : ByteArray} (h0 : noName l s l.length = true) : findI l s = -1 := by
  have : l.findIdx? (nameIs s) = none := by
    rw [List.findIdx?_eq_none_iff]
    intro x hx
    obtain ⟨i, hi, rfl⟩ := List.mem_iff_getElem.1 hx
    have := allUpto_iff.1 h0 i hi
    simpa [hi] using this
  simp [findI, this]
theorem findI_lt (l : List AreaR) (s : ByteArray) : findI l s < l.length := by
  unfold findI
  split
  · rename_i i h
    have := (List.findIdx?_eq_some_iff_getElem.1 h).1
    omega
  · omega
theorem findI_ge (l : List AreaR) (s : ByteArray) : -1 ≤ findI l s := by
  unfold findI
  split <;> omega
theorem noName_step {l : List AreaR} {s : ByteArray} {k : Nat} (hk : k < l.length) (h0 : noName l s k = true) (h : nameIs s l[k] = false) : noName l s (k + 1) = true :=
  allUpto_step h0 (by simp [hk, h])

set_option maxHeartbeats 400000 in
theorem i_areaIndex1 (r : AreaR) (s : ByteArray) (b o : Nat) (w : World) (hb : b < w.heap.size) (hc : w.cell? ⟨b, o, none⟩ = some (.string s)) :
    Calls Tryd.prog 68 #[r.val, .pointer (some ⟨b, o, none⟩)] w fun e' w' => e' = .returned (.bool (nameIs s r)) ∧ ∃ g, w' = plus w g := by
  go_enter Tryd.func68, Tryd.ntmps68
  go_wp2
  go_ret
  exact ⟨rfl, by (repeat (first | with_reducible exact grew_refl _ | with_reducible assumption | with_reducible refine grew_split ?_ | with_reducible refine grew_mk ?_ | with_reducible refine grew_plus ?_ | with_reducible refine grew_alloc ?_ | with_reducible refine grew_drew ?_ | (with_reducible refine grew_set ?_ (by first | exact Nat.le_refl _ | omega | (simp [go_sem]; done) | (simp [go_sem]; omega)))))⟩
set_option maxHeartbeats 1000000 in
theorem i_IndexFunc (l : List AreaR) (A : Option Addr) (c : Nat) (s : ByteArray) (b o : Nat) (w : World) (hA : Sl w 6 AreaR.row A l) (hl : l.length ≤ maxLen) (hb : b < w.heap.size) (hc : w.cell? ⟨b, o, none⟩ = some (.string s)) :
    Calls Tryd.prog 67 #[.slice A l.length c, .func (.func 68) #[] #[.pointer (some ⟨b, o, none⟩)]] w fun e' w' => e' = .returned (.int .i64 (findI l s)) ∧ ∃ g, w' = plus w g := by
  unfold maxLen at hl
  go_enter Tryd.func67, Tryd.ntmps67
  go_wp2_with fail
  go_loopw [8, 5] (fun i _ wr => ∃ k : Nat, k ≤ l.length ∧ i = .int .i64 k ∧ noName l s k = true ∧ (∃ g, wr = plus w g)) (fun i _ _ => l.length - (intOf i).toNat)
  case atStart => exact ⟨0, Nat.zero_le _, rfl, rfl, _, plus_refl _⟩
  case round =>
    obtain ⟨k, hk, rfl, h0, g, rfl⟩ := hrel
    have H0 := hid h0
    clear h0
    by_cases hlt : k < l.length
    · obtain ⟨b', off, rfl, hb', hcl⟩ := hA.at_ hlt
      obtain ⟨hc0, hc1, hc2, hc3, hc4, hc5⟩ := AreaR.cells6 hcl hlt
      clear hcl hA
      go_wp2_with (go_at_call 68; refine (i_areaIndex1 l[k] s b o _ (by simp [go_sem]; omega) (by simp [go_sem, hb, hc])).mono ?_; (rintro e w' ⟨rfl, gx, rfl⟩))
      all_goals first
        | (go_roundw
           case rel => exact ⟨k + 1, by omega, by go_num, noName_step hlt H0.out (by grind), by (repeat (first | with_reducible exact grew_refl _ | with_reducible assumption | with_reducible refine grew_split ?_ | with_reducible refine grew_mk ?_ | with_reducible refine grew_plus ?_ | with_reducible refine grew_alloc ?_ | with_reducible refine grew_drew ?_ | (with_reducible refine grew_set ?_ (by first | exact Nat.le_refl _ | omega | (simp [go_sem]; done) | (simp [go_sem]; omega)))))⟩
           case measure => simp [intOf]; omega)
        | (go_ret
           exact ⟨ret_int (findI_hit hlt H0.out (by grind)).symm, by (repeat (first | with_reducible exact grew_refl _ | with_reducible assumption | with_reducible refine grew_split ?_ | with_reducible refine grew_mk ?_ | with_reducible refine grew_plus ?_ | with_reducible refine grew_alloc ?_ | with_reducible refine grew_drew ?_ | (with_reducible refine grew_set ?_ (by first | exact Nat.le_refl _ | omega | (simp [go_sem]; done) | (simp [go_sem]; omega)))))⟩)
    · obtain rfl : k = l.length := by omega
      go_wp2
      go_ret
      exact ⟨ret_int (findI_none H0.out).symm, by (repeat (first | with_reducible exact grew_refl _ | with_reducible assumption | with_reducible refine grew_split ?_ | with_reducible refine grew_mk ?_ | with_reducible refine grew_plus ?_ | with_reducible refine grew_alloc ?_ | with_reducible refine grew_drew ?_ | (with_reducible refine grew_set ?_ (by first | exact Nat.le_refl _ | omega | (simp [go_sem]; done) | (simp [go_sem]; omega)))))⟩
set_option maxHeartbeats 1000000 in
theorem i_areaIndex (l : List AreaR) (A : Option Addr) (c : Nat) (s : ByteArray) (w : World) (hA : Sl w 6 AreaR.row A l) (hl : l.length ≤ maxLen) :
    Calls Tryd.prog 49 #[.slice A l.length c, .string s] w fun e' w' => e' = .returned (.int .i64 (findI l s)) ∧ ∃ g, w' = plus w g := by
  go_enter Tryd.func49, Tryd.ntmps49
  go_wp2_with fail
  refine (i_IndexFunc l A c s w.heap.size 0 _ (hA.alloc _) hl (by simp) (by simp)).mono ?_
  (rintro e w' ⟨rfl, gx, rfl⟩)
  go_wp2_with fail
  go_ret
  exact ⟨rfl, by (repeat (first | with_reducible exact grew_refl _ | with_reducible assumption | with_reducible refine grew_split ?_ | with_reducible refine grew_mk ?_ | with_reducible refine grew_plus ?_ | with_reducible refine grew_alloc ?_ | with_reducible refine grew_drew ?_ | (with_reducible refine grew_set ?_ (by first | exact Nat.le_refl _ | omega | (simp [go_sem]; done) | (simp [go_sem]; omega)))))⟩
end Go.Proofs.YteogidghoohgaaaDoor
