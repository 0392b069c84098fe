/- What a possible step of a day changes. Plain laws; no program in sight. -/
import Derived.Test.YtcljcbbkbepmjaaDoorD16
import Derived.Test.YtcljcbbkbepmjaaDoorD4
namespace Go.Proofs.YtcljcbbkbepmjaaDoor
open Go.RowKit

theorem stepAll_yes {d o : DayC} {k x : Int} (h : stepAll d k x = (o, true)) : d.ok = true ∧ o.ok = true ∧ candF d k x = some o := by
  unfold stepAll at h
  split at h
  · rename_i hd
    unfold stepF at h
    split at h
    · rename_i d' hc
      split at h
      · rename_i ho
        injection h with h1 h2
        subst h1
        exact ⟨hd, ho, hc⟩
      · injection h with h1 h2; cases h2
    · injection h with h1 h2; cases h2
  · injection h with h1 h2; cases h2
theorem stepAll_len (d : DayC) (k x : Int) : (stepAll d k x).1.lines.length ≤ 8 := by
  unfold stepAll
  split
  · rename_i hd
    cases h2 : (stepF d k x).2
    · rw [stepF_no h2]; simp [noDay]
    · exact (DayC.bounds (stepF_ok h2)).2.2.2.2.2.1
  · simp [noDay]
/-- The ways of a possible step. -/
theorem cand_ways {d o : DayC} {k x : Int} (h : candF d k x = some o) :
    (d.minute ≤ o.minute ∧ (0 ≤ d.fuel → o.fuel ≤ d.fuel)) ∧ (k = 4 → castB d = true) ∧ ((k ≠ 5 ∧ o.lines = d.lines) ∨ (k = 5 ∧ d.state = 2 ∧ o.lines = setDone d.lines (d.line - 1).toNat)) := by
  unfold candF at h
  repeat' split at h
  all_goals first
    | (cases h; done)
    | (injection h with h; subst h; simp only; refine ⟨⟨by omega, ?_⟩, ?_, ?_⟩ <;> grind)
theorem mem_todo {l : List LineR} {x : Int} : ∀ {k : Nat}, x ∈ todoTo l k ↔ ∃ i : Nat, i < k ∧ doneAt l i = false ∧ x = (i : Int) + 1 := by
  intro k
  induction k with
  | zero => simp [todoTo]
  | succ k ih =>
    simp only [todoTo]
    constructor
    · intro h
      split at h
      · obtain ⟨i, h1, h2⟩ := ih.1 h; exact ⟨i, by omega, h2⟩
      · rename_i hd
        rcases List.mem_append.1 h with h | h
        · obtain ⟨i, h1, h2⟩ := ih.1 h; exact ⟨i, by omega, h2⟩
        · simp at h; exact ⟨k, by omega, by simpa using hd, h⟩
    · rintro ⟨i, h1, h2, h3⟩
      by_cases hik : i = k
      · subst hik
        rw [if_neg (by simp [h2])]
        exact List.mem_append.2 (.inr (by simp [h3]))
      · have := ih.2 ⟨i, by omega, h2, h3⟩
        split
        · exact this
        · exact List.mem_append.2 (.inl this)
theorem done_set {l : List LineR} {j i : Nat} (hj : j < l.length) : doneAt (setDone l j) i = (doneAt l i || decide (i = j)) := by
  unfold doneAt setDone
  rw [dif_pos hj]
  by_cases hi : i < l.length
  · rw [dif_pos hi, dif_pos (by simpa using hi)]
    by_cases e : i = j
    · subst e; simp
    · rw [List.getElem_set_ne (by omega)]; simp [e]
  · rw [dif_neg hi, dif_neg (by simpa using hi)]
    have : i ≠ j := by omega
    simp [this]
theorem setDone_len' (l : List LineR) (j : Nat) : (setDone l j).length = l.length := by unfold setDone; split <;> simp
theorem todo_set {l : List LineR} {j : Nat} (hj : j < l.length) (hd : doneAt l j = false) : ∀ k, (k ≤ j → todoTo (setDone l j) k = todoTo l k) ∧ (j < k → (todoTo (setDone l j) k).length + 1 = (todoTo l k).length) := by
  intro k
  induction k with
  | zero => exact ⟨fun _ => rfl, fun h => by omega⟩
  | succ k ih =>
    constructor
    · intro hk
      have e : decide (k = j) = false := by simp; omega
      simp only [todoTo, done_set hj, e, Bool.or_false, ih.1 (by omega)]
    · intro hk
      by_cases e : k = j
      · subst e
        simp only [todoTo, done_set hj, hd, ih.1 (Nat.le_refl _)]
        simp
      · have e' : decide (k = j) = false := by simp [e]
        have := ih.2 (by omega)
        simp only [todoTo, done_set hj, e', Bool.or_false]
        split
        · exact this
        · simp; omega
/-- What a possible step changes. -/
theorem step_law {d o : DayC} {k x : Int} (h : stepAll d k x = (o, true)) :
    d.ok = true ∧ o.ok = true ∧ d.minute ≤ o.minute ∧ o.fuel ≤ d.fuel ∧ (k = 4 → castB d = true) ∧ (∀ y ∈ todoF o, y ∈ todoF d) ∧ (k = 5 → (todoF o).length + 1 = (todoF d).length) := by
  obtain ⟨hd, ho, hc⟩ := stepAll_yes h
  obtain ⟨⟨h1, h2⟩, h3, h4⟩ := cand_ways hc
  have hb := DayC.bounds hd
  have e1 : todoF d = todoTo d.lines d.lines.length := by simp [todoF, hd]
  have e2 : todoF o = todoTo o.lines o.lines.length := by simp [todoF, ho]
  refine ⟨hd, ho, h1, h2 (by omega), h3, ?_, ?_⟩
  · intro y hy
    rw [e1]; rw [e2] at hy
    obtain ⟨i, i1, i2, i3⟩ := mem_todo.1 hy
    rcases h4 with ⟨_, e⟩ | ⟨_, hs, e⟩
    · rw [e] at i1 i2
      exact mem_todo.2 ⟨i, i1, i2, i3⟩
    · rw [e, setDone_len'] at i1
      refine mem_todo.2 ⟨i, i1, ?_, i3⟩
      rw [e] at i2
      by_cases hj : (d.line - 1).toNat < d.lines.length
      · rw [done_set hj] at i2
        simp only [Bool.or_eq_false_iff] at i2
        exact i2.1
      · rwa [setDone, dif_neg hj] at i2
  · intro hk
    rcases h4 with ⟨h5, _⟩ | ⟨_, hs, e⟩
    · exact absurd hk h5
    · have hp : d.post = true := by
        unfold DayC.ok at hd
        simp only [Bool.and_eq_true] at hd
        exact hd.2
      unfold DayC.post at hp
      rw [if_pos hs] at hp
      simp only [inB, Bool.and_eq_true, decide_eq_true_eq, Bool.not_eq_true'] at hp
      have hj : (d.line - 1).toNat < d.lines.length := by omega
      rw [e1, e2, e, setDone_len']
      exact (todo_set hj hp.1.2 d.lines.length).2 hj
end Go.Proofs.YtcljcbbkbepmjaaDoor
