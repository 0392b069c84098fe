/- The names of a good list of areas are distinct. No program in sight. -/
import Derived.Test.YteogidghoohgaaaDoorAs
namespace Go.Proofs.YteogidghoohgaaaDoor
open Go.RowKit

theorem bytesLess_no (x : List UInt8) : Op.bytesLess x x = false := by
  induction x with
  | nil => rfl
  | cons a x ih => simp [Op.bytesLess, ih]
theorem bytesLess_tr : ∀ x y z : List UInt8, Op.bytesLess x y = true → Op.bytesLess y z = true → Op.bytesLess x z = true := by
  intro x
  induction x with
  | nil =>
    intro y z h1 h2
    cases z with
    | nil => cases y <;> simp [Op.bytesLess] at h2
    | cons c z => rfl
  | cons a x ih =>
    intro y z h1 h2
    cases y with
    | nil => simp [Op.bytesLess] at h1
    | cons b y =>
      cases z with
      | nil => simp [Op.bytesLess] at h2
      | cons c z =>
        simp only [Op.bytesLess, Bool.or_eq_true, decide_eq_true_eq, Bool.and_eq_true, beq_iff_eq] at h1 h2 ⊢
        rcases h1 with h1 | ⟨rfl, h1⟩
        · rcases h2 with h2 | ⟨rfl, h2⟩
          · exact .inl (UInt8.lt_trans h1 h2)
          · exact .inl h1
        · rcases h2 with h2 | ⟨rfl, h2⟩
          · exact .inl h2
          · exact .inr ⟨rfl, ih _ _ h1 h2⟩
theorem areas_less {l : List AreaR} (h : areasB l = true) {i : Nat} : ∀ {j : Nat} (_ : i < j) (hj : j < l.length), Op.bytesLess (l[i]'(by omega)).nm.toList l[j].nm.toList = true := by
  have step : ∀ k (hk : k + 1 < l.length), Op.bytesLess l[k].nm.toList l[k + 1].nm.toList = true := by
    intro k hk
    simp only [areasB, Bool.and_eq_true] at h
    have := allUpto_iff.1 h.1 (k + 1) hk
    simp only [areaStep, hk, ↓reduceDIte, Bool.and_eq_true] at this
    simpa using this.2
  intro j
  induction j with
  | zero => intro h; omega
  | succ j ih =>
    intro hij hj
    by_cases e : i = j
    · subst e; exact step i hj
    · exact bytesLess_tr _ _ _ (ih (by omega) (by omega)) (step j hj)
theorem areas_eq {l : List AreaR} (h : areasB l = true) {i j : Nat} (hi : i < l.length) (hj : j < l.length) (e : l[i].nm.toList = l[j].nm.toList) : i = j := by
  rcases Nat.lt_trichotomy i j with h1 | h1 | h1
  · have := areas_less h h1 hj
    rw [e, bytesLess_no] at this; cases this
  · exact h1
  · have := areas_less h h1 hi
    rw [e, bytesLess_no] at this; cases this
theorem areas_mem {l : List AreaR} (h : areasB l = true) {i : Nat} (hi : i < l.length) {r : AreaR} (hr : r ∈ l) (e : r.nm.toList = l[i].nm.toList) : r = l[i] := by
  obtain ⟨j, hj, rfl⟩ := List.mem_iff_getElem.1 hr
  have := areas_eq h hj hi e
  subst this; rfl
/-- Whether a name stands in a list. -/
def hasT (l : List ByteArray) (s : ByteArray) : Bool := l.any fun t => t.toList == s.toList
theorem ordF_has {ch : AreaR → Bool} {gt : AreaR → AreaR → Bool} {l : List AreaR} (h : areasB l = true) {i : Nat} (hi : i < l.length) : hasT ((ordF ch gt l).map AreaR.nm) l[i].nm = ch l[i] := by
  rw [Bool.eq_iff_iff, hasT, List.any_eq_true]
  constructor
  · rintro ⟨t, ht, e⟩
    obtain ⟨r, hr, rfl⟩ := List.mem_map.1 ht
    obtain ⟨h1, h2⟩ := ordF_sub hr
    rw [← areas_mem h hi h1 (by simpa using e)]; exact h2
  · intro hc
    exact ⟨l[i].nm, List.mem_map.2 ⟨l[i], insAll_mem.2 (List.mem_filter.2 ⟨List.getElem_mem hi, hc⟩), rfl⟩, by simp⟩
end Go.Proofs.YteogidghoohgaaaDoor
