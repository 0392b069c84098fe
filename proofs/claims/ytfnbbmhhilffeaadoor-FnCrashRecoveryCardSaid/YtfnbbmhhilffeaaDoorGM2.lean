/- The records of a log: where they end. No program in sight. -/
import Derived.Test.YtfnbbmhhilffeaaDoorGM
namespace Go.Proofs.YtfnbbmhhilffeaaDoor
open Go.RowKit

theorem opens_succ_none {f : Nat} {s : Bytes} {k : Nat} (h : headB s k = none) : opens (f + 1) s k = [] := by rw [opens, h]
theorem opens_succ_some {f : Nat} {s : Bytes} {k : Nat} {e : RecR} {n : Nat} (h : headB s k = some (e, n)) : opens (f + 1) s k = (e, n) :: opens f (s.drop n) (k + 1) := by rw [opens, h]
theorem endAt_zero (L : List (RecR × Nat)) : endAt L 0 = 0 := rfl
theorem endAt_cons (x : RecR × Nat) (L : List (RecR × Nat)) (j : Nat) : endAt (x :: L) (j + 1) = x.2 + endAt L j := by simp [endAt, endOf]
theorem endOf_nil : endOf [] = 0 := rfl
theorem endOf_cons (x : RecR × Nat) (L : List (RecR × Nat)) : endOf (x :: L) = x.2 + endOf L := by simp [endOf]
theorem endAt_len (L : List (RecR × Nat)) : endAt L L.length = endOf L := by simp [endAt]
theorem endAt_succ {L : List (RecR × Nat)} {j : Nat} (h : j < L.length) : endAt L (j + 1) = endAt L j + L[j].2 := by
  unfold endAt endOf
  rw [List.take_succ_eq_append_getElem h, List.map_append, List.sum_append]; simp
theorem opens_get : ∀ (f : Nat) (s : Bytes) (k j : Nat), j ≤ (opens f s k).length → 61 ≤ f + k → headB (s.drop (endAt (opens f s k) j)) (k + j) = (opens f s k)[j]? := by
  intro f
  induction f with
  | zero =>
    intro s k j hj hf
    simp only [opens, List.length_nil, Nat.le_zero] at hj
    subst hj
    rw [headB_full (by omega)]; rfl
  | succ f ih =>
    intro s k j hj hf
    cases h : headB s k with
    | none =>
      rw [opens_succ_none h] at hj ⊢
      simp only [List.length_nil, Nat.le_zero] at hj
      subst hj
      simpa [endAt_zero] using h
    | some p =>
      obtain ⟨e, n⟩ := p
      rw [opens_succ_some h] at hj ⊢
      cases j with
      | zero => simpa [endAt_zero] using h
      | succ j =>
        rw [endAt_cons, ← List.drop_drop, Nat.add_comm j 1, ← Nat.add_assoc, Nat.add_comm 1 j]
        rw [ih (s.drop n) (k + 1) j (by simpa using hj) (by omega)]
        rfl
theorem opens_le : ∀ (f : Nat) (s : Bytes) (k : Nat), (opens f s k).length ≤ 60 - k := by
  intro f
  induction f with
  | zero => intro s k; simp [opens]
  | succ f ih =>
    intro s k
    cases h : headB s k with
    | none => rw [opens_succ_none h]; simp
    | some p =>
      obtain ⟨e, n⟩ := p
      rw [opens_succ_some h]
      have := ih (s.drop n) (k + 1)
      have := (headB_some h).1
      simp only [List.length_cons]
      omega
theorem opens_end : ∀ (f : Nat) (s : Bytes) (k : Nat), endOf (opens f s k) ≤ s.length := by
  intro f
  induction f with
  | zero => intro s k; simp [opens, endOf]
  | succ f ih =>
    intro s k
    cases h : headB s k with
    | none => rw [opens_succ_none h]; simp [endOf]
    | some p =>
      obtain ⟨e, n⟩ := p
      rw [opens_succ_some h, endOf_cons]
      have := ih (s.drop n) (k + 1)
      have h2 := headB_lt h
      simp only [List.length_drop] at this
      show n + _ ≤ _
      omega
theorem opens_mem : ∀ (f : Nat) (s : Bytes) (k : Nat), ∀ x ∈ opens f s k, x.1.ok = true ∧ 0 < x.2 ∧ x.2 ≤ 372 := by
  intro f
  induction f with
  | zero => intro s k x hx; simp [opens] at hx
  | succ f ih =>
    intro s k x hx
    cases h : headB s k with
    | none => rw [opens_succ_none h] at hx; simp at hx
    | some p =>
      obtain ⟨e, n⟩ := p
      rw [opens_succ_some h] at hx
      rcases List.mem_cons.1 hx with rfl | hx
      · have := headB_lt h
        exact ⟨(headB_some h).2.1, this.1, this.2.2⟩
      · exact ih _ _ x hx
theorem endOf_bound (L : List (RecR × Nat)) (h : ∀ x ∈ L, x.2 ≤ 372) : endOf L ≤ 372 * L.length := by
  induction L with
  | nil => simp [endOf]
  | cons x r ih =>
    rw [endOf_cons, List.length_cons]
    have := ih (fun y hy => h y (by simp [hy]))
    have := h x (by simp)
    omega
theorem endAt_bound (L : List (RecR × Nat)) (h : ∀ x ∈ L, x.2 ≤ 372) (j : Nat) : endAt L j ≤ 372 * j := by
  have := endOf_bound (L.take j) (fun x hx => h x (List.mem_of_mem_take hx))
  have := List.length_take_le j L
  unfold endAt
  omega
theorem endAt_mono (L : List (RecR × Nat)) (j : Nat) : endAt L j ≤ endOf L := by
  have h : endOf L = endAt L j + endOf (L.drop j) := by
    unfold endAt endOf
    rw [← List.sum_append, ← List.map_append, List.take_append_drop]
  omega
theorem endOf_pos {L : List (RecR × Nat)} {j : Nat} (hj : j < L.length) {x : RecR × Nat} {r : List (RecR × Nat)} (hL : L = x :: r) : x.2 ≤ endAt L (j + 1) := by
  subst hL; rw [endAt_cons]; omega
theorem cutB_join (D P : Bytes) (h : (cutB 10 D).2.2 = true) : (cutB 10 (D ++ P)).1 = (cutB 10 D).1 ∧ (cutB 10 (D ++ P)).2.2 = true := by
  have h1 := cutB_found 10 D h
  have h2 : cutB 10 (D ++ P) = ((cutB 10 D).1, (cutB 10 D).2.1 ++ P, true) := by
    conv => lhs; rw [h1]
    rw [List.append_assoc, List.cons_append]
    exact cutB_app _ _ _ (cutB_free 10 D)
  rw [h2]; exact ⟨rfl, rfl⟩
theorem headB_join {D P : Bytes} {k : Nat} (h : (cutB 10 D).2.2 = true) : headB (D ++ P) k = headB D k := by
  obtain ⟨h1, h2⟩ := cutB_join D P h
  unfold headB
  rw [h1, h2, h]
theorem headB_miss {D : Bytes} {k : Nat} (h : (cutB 10 D).2.2 = false) : headB D k = none := by unfold headB; rw [h]; simp
theorem headB_far {D P : Bytes} {k n : Nat} {e : RecR} (h : (cutB 10 D).2.2 = false) (hh : headB (D ++ P) k = some (e, n)) : D.length < n := by
  obtain ⟨hk, ho, hn, hs⟩ := headB_some hh
  have hD : ∀ c ∈ D, c ≠ 10 := by
    have := cutB_free 10 D
    rw [cutB_miss 10 D h] at this
    exact this
  rcases Nat.lt_or_ge D.length n with h1 | h1
  · exact h1
  · exfalso
    have hmem : (10 : UInt8) ∈ D := by
      have e1 : (D ++ P)[(e.line k).length]? = some 10 := by
        rw [hs, List.getElem?_append_right (by omega)]; simp
      rw [List.getElem?_append_left (by omega)] at e1
      exact List.mem_of_getElem? e1
    exact hD 10 hmem rfl
/-- Where the log is cut: at an end of a record just if the part ahead is records throughout. -/
theorem ends_prefix : ∀ (f : Nat) (D P : Bytes) (k : Nat), (∃ j, j ≤ (opens f (D ++ P) k).length ∧ endAt (opens f (D ++ P) k) j = D.length) ↔ endOf (opens f D k) = D.length := by
  intro f
  induction f with
  | zero =>
    intro D P k
    simp only [opens, List.length_nil, Nat.le_zero, endOf_nil]
    constructor
    · rintro ⟨j, rfl, h⟩; exact h
    · intro h; exact ⟨0, rfl, h⟩
  | succ f ih =>
    intro D P k
    cases hc : (cutB 10 D).2.2
    · rw [opens_succ_none (headB_miss (k := k) hc), endOf_nil]
      cases h : headB (D ++ P) k with
      | none =>
        rw [opens_succ_none h]
        simp only [List.length_nil, Nat.le_zero]
        constructor
        · rintro ⟨j, rfl, h⟩; exact h
        · intro h; exact ⟨0, rfl, h⟩
      | some p =>
        obtain ⟨e, n⟩ := p
        have hn := headB_far hc h
        rw [opens_succ_some h]
        constructor
        · rintro ⟨j, hj, he⟩
          cases j with
          | zero => exact he
          | succ j => rw [endAt_cons] at he; exact absurd he (by show n + _ ≠ _; omega)
        · intro h0; exact ⟨0, Nat.zero_le _, h0⟩
    · have hj : headB (D ++ P) k = headB D k := headB_join hc
      cases h : headB D k with
      | none =>
        rw [opens_succ_none h, opens_succ_none (hj.trans h)]
        simp only [List.length_nil, Nat.le_zero, endOf_nil]
        constructor
        · rintro ⟨j, rfl, h⟩; exact h
        · intro h; exact ⟨0, rfl, h⟩
      | some p =>
        obtain ⟨e, n⟩ := p
        obtain ⟨hn0, hn1, _⟩ := headB_lt h
        rw [opens_succ_some h, opens_succ_some (hj.trans h), List.drop_append_of_le_length hn1, endOf_cons]
        have hI := ih (D.drop n) P (k + 1)
        rw [List.length_drop] at hI
        constructor
        · rintro ⟨j, hj, he⟩
          cases j with
          | zero => rw [endAt_zero] at he; omega
          | succ j =>
            rw [endAt_cons] at he
            have := hI.1 ⟨j, by simpa using hj, by simp only at he; omega⟩
            show n + _ = _
            omega
        · intro h0
          obtain ⟨j, h1, h2⟩ := hI.2 (by simp only at h0; omega)
          exact ⟨j + 1, by simpa using h1, by rw [endAt_cons]; show n + _ = _; omega⟩
/-- Whether a log is whole. -/
def logB (D P : Bytes) (n : Int) : Bool := decide (endOf (opensF (D ++ P)) = (D ++ P).length) && decide (((opensF (D ++ P)).length : Int) = n) && decide (endOf (opensF D) = D.length)
theorem opensF_len (s : Bytes) : (opensF s).length ≤ 60 := opens_le 61 s 0
theorem opensF_end (s : Bytes) : endOf (opensF s) ≤ s.length ∧ endOf (opensF s) ≤ 22320 := by
  have h1 := opens_end 61 s 0
  have h2 := endOf_bound (opensF s) (fun x hx => (opens_mem 61 s 0 x hx).2.2)
  have h3 := opensF_len s
  exact ⟨h1, by omega⟩
theorem opensF_get (s : Bytes) {j : Nat} (h : j ≤ (opensF s).length) : headB (s.drop (endAt (opensF s) j)) j = (opensF s)[j]? := by
  have := opens_get 61 s 0 j h (by omega)
  rwa [Nat.zero_add] at this
end Go.Proofs.YtfnbbmhhilffeaaDoor
