/- MinutesToDo and ShareOfAll in both packages. -/
import Derived.Test.YteogidghoohgaaaDoorA4
import Derived.Test.YteogidghoohgaaaDoorL2
namespace Go.Proofs.YteogidghoohgaaaDoor
open Go.RowKit

theorem areasB_ok {l : List AreaR} (h : areasB l = true) {k : Nat} (hk : k < l.length) : l[k].ok = true := by
  simp only [areasB, Bool.and_eq_true] at h
  have := allUpto_iff.1 h.1 k hk
  simp only [areaStep, hk, ↓reduceDIte, Bool.and_eq_true] at this
  exact this.1
theorem areasB_len {l : List AreaR} (h : areasB l = true) : l.length ≤ 10 := by
  simp only [areasB, Bool.and_eq_true, decide_eq_true_eq] at h
  exact h.2
theorem AreaR.bounds {r : AreaR} (h : r.ok = true) : 1 ≤ r.cells ∧ r.cells ≤ 9999 ∧ 0 ≤ r.cov ∧ r.cov ≤ r.cells ∧ -1000 ≤ r.least ∧ r.least ≤ 20000 ∧ 0 ≤ r.spread ∧ r.spread ≤ 999 ∧ 0 ≤ r.minutes ∧ r.minutes ≤ 99999 ∧ (0 < r.cov ∨ r.least = 0 ∧ r.spread = 0) ∧ r.nm.size ≤ 10 := by
  simp only [AreaR.ok, inB, Bool.and_eq_true, Bool.or_eq_true, decide_eq_true_eq, beq_iff_eq] at h
  have := wordB_size h.1.1.1.1.1.1
  grind
theorem findI_cases {l : List AreaR} {s : ByteArray} : findI l s = -1 ∨ ∃ k : Nat, k < l.length ∧ findI l s = k := by
  have h1 := findI_ge l s
  have h2 := findI_lt l s
  by_cases h : findI l s < 0
  · left; omega
  · right; exact ⟨(findI l s).toNat, by omega, by omega⟩

def find2 (l : List AreaR) (s : ByteArray) : Int := if areasB l then findI l s else -1
theorem find2_bad {l : List AreaR} {s : ByteArray} (h : areasB l = false) : find2 l s = -1 := by simp [find2, h]
theorem find2_good {l : List AreaR} {s : ByteArray} (h : areasB l = true) : find2 l s = findI l s := by simp [find2, h]
theorem find2_none {l : List AreaR} {s : ByteArray} (h : findI l s = -1) : find2 l s = -1 := by simp [find2, h]
set_option maxHeartbeats 1000000 in
theorem s_l26Find (l : List AreaR) (A : Option Addr) (c : Nat) (s : ByteArray) (w : World) (hA : Sl w 6 AreaR.row A l) (hs : ∀ r ∈ l, r.nm.size ≤ maxLen) (hl : l.length ≤ maxLen) :
    Calls Tryd.prog 51 #[.slice A l.length c, .string s] w fun e' w' => e' = .returned (.int .i64 (find2 l s)) ∧ ∃ g, w' = plus w g := by
  have hl0 := hl
  unfold maxLen at hl0
  go_enter Tryd.func51, Tryd.ntmps51
  go_wp2_with fail
  go_loopw [5] (fun i wr => ∃ k : Nat, k ≤ l.length ∧ i = .int .i64 k ∧ noName l s k = true ∧ (∃ g, wr = plus w g)) (fun i _ => l.length - (intOf i).toNat)
  case atStart => exact ⟨0, Nat.zero_le _, rfl, rfl, _, plus_refl _⟩
  case round =>
    obtain ⟨k, hk, rfl, h0, g, rfl⟩ := hrel
    have H0 := hid h0
    have HS := hid hs
    have HA := hid hA
    clear h0 hs
    by_cases hlt : k < l.length
    · obtain ⟨b', off, rfl, hb', hcl⟩ := hA.at_ hlt
      have hc0 := hcl k hlt 0 _ rfl
      simp only [Nat.add_zero] at hc0
      clear hcl hA
      cases hgood : areasB l
      · go_wp2_with (go_at_call 29; refine (s_l26Good l _ _ _ hgood _ (HA.out.plus _) HS.out hl).mono ?_; (rintro e w' ⟨rfl, gx, rfl⟩))
        go_ret
        exact ⟨ret_int (find2_bad hgood).symm, by (repeat (first | with_reducible exact grew_refl _ | with_reducible assumption | with_reducible refine grew_split ?_ | with_reducible refine grew_mk ?_ | with_reducible refine grew_plus ?_ | with_reducible refine grew_alloc ?_ | with_reducible refine grew_drew ?_ | (with_reducible refine grew_set ?_ (by first | exact Nat.le_refl _ | omega | (simp [go_sem]; done) | (simp [go_sem]; omega)))))⟩
      · go_wp2_with (go_at_call 29; refine (s_l26Good l _ _ _ hgood _ (HA.out.plus _) HS.out hl).mono ?_; (rintro e w' ⟨rfl, gx, rfl⟩))
        all_goals first
          | (go_roundw
             case rel => exact ⟨k + 1, by omega, by go_num, noName_step hlt H0.out (by unfold nameIs; grind), by (repeat (first | with_reducible exact grew_refl _ | with_reducible assumption | with_reducible refine grew_split ?_ | with_reducible refine grew_mk ?_ | with_reducible refine grew_plus ?_ | with_reducible refine grew_alloc ?_ | with_reducible refine grew_drew ?_ | (with_reducible refine grew_set ?_ (by first | exact Nat.le_refl _ | omega | (simp [go_sem]; done) | (simp [go_sem]; omega)))))⟩
             case measure => simp [intOf]; omega)
          | (go_ret
             exact ⟨ret_int (by rw [find2_good hgood]; exact (findI_hit hlt H0.out (by unfold nameIs; grind)).symm), by (repeat (first | with_reducible exact grew_refl _ | with_reducible assumption | with_reducible refine grew_split ?_ | with_reducible refine grew_mk ?_ | with_reducible refine grew_plus ?_ | with_reducible refine grew_alloc ?_ | with_reducible refine grew_drew ?_ | (with_reducible refine grew_set ?_ (by first | exact Nat.le_refl _ | omega | (simp [go_sem]; done) | (simp [go_sem]; omega)))))⟩)
    · obtain rfl : k = l.length := by omega
      clear hA
      go_wp2_with fail
      go_ret
      exact ⟨ret_int (find2_none (findI_none H0.out)).symm, by (repeat (first | with_reducible exact grew_refl _ | with_reducible assumption | with_reducible refine grew_split ?_ | with_reducible refine grew_mk ?_ | with_reducible refine grew_plus ?_ | with_reducible refine grew_alloc ?_ | with_reducible refine grew_drew ?_ | (with_reducible refine grew_set ?_ (by first | exact Nat.le_refl _ | omega | (simp [go_sem]; done) | (simp [go_sem]; omega)))))⟩

/-- What is left to do, and whether that can be told. -/
def minutesF (l : List AreaR) (s : ByteArray) : Int × Bool :=
  if areasB l then (match l.findIdx? (nameIs s) with
    | some i => match l[i]? with
      | some r => if r.cov = 0 then (0, false) else ((r.minutes * (r.cells - r.cov) + r.cov - 1) / r.cov, true)
      | none => (0, false)
    | none => (0, false)) else (0, false)
theorem minutesF_bad {l : List AreaR} {s : ByteArray} (h : areasB l = false) : minutesF l s = (0, false) := by simp [minutesF, h]
theorem minutesF_none {l : List AreaR} {s : ByteArray} (h : findI l s = -1) : minutesF l s = (0, false) := by
  unfold minutesF findI at *
  split
  · split
    · rename_i h'; rw [h'] at h; dsimp only at h; omega
    · rfl
  · rfl
theorem minutesF_some {l : List AreaR} {s : ByteArray} {k : Nat} (hk : k < l.length) (hg : areasB l = true) (h : findI l s = k) :
    minutesF l s = if l[k].cov = 0 then (0, false) else ((l[k].minutes * (l[k].cells - l[k].cov) + l[k].cov - 1) / l[k].cov, true) := by
  unfold minutesF findI at *
  rw [if_pos hg]
  split
  · rename_i i h'
    rw [h'] at h
    simp only [Int.natCast_inj] at h
    subst h
    rw [List.getElem?_eq_getElem hk]
  · rename_i h'; rw [h'] at h; dsimp only at h; omega
theorem ret_ib {a b : Int} {c d : Bool} (h : a = b) (h' : c = d) : Ending.returned (.tuple #[.int .i64 a, .bool c]) = .returned (.tuple #[.int .i64 b, .bool d]) := by rw [h, h']

end Go.Proofs.YteogidghoohgaaaDoor
