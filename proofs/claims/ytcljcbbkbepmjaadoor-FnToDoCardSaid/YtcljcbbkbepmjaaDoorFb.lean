/- What a minute's waiting changes of what is left to do. Plain laws; no program in sight. -/
import Derived.Test.YtcljcbbkbepmjaaDoorFa
import Derived.Test.YtcljcbbkbepmjaaDoorE2
namespace Go.Proofs.YtcljcbbkbepmjaaDoor
open Go.RowKit

theorem wait_one {d o : DayC} (h : stepAll d 1 1 = (o, true)) : d.ok = true ∧ o.ok = true ∧ o.lines = d.lines ∧ o.line = d.line ∧ o.since = d.since ∧ o.minute = d.minute + 1 := by
  obtain ⟨hd, ho, hc⟩ := stepAll_yes h
  unfold candF at hc
  split at hc
  · injection hc with hc
    subst hc
    exact ⟨hd, ho, rfl, rfl, rfl, rfl⟩
  · exfalso
    repeat' split at hc
    all_goals first
      | (cases hc; done)
      | (simp at *; done)
      | omega
theorem left_wait {d o : DayC} (h1 : o.lines = d.lines) (h2 : o.line = d.line) (h3 : o.since = d.since) (h4 : o.minute = d.minute + 1) : ∀ k, leftTo o k ≤ leftTo d k ∧ leftTo d k ≤ leftTo o k + (if 1 ≤ d.line ∧ d.line ≤ (k : Int) then 1 else 0) := by
  intro k
  induction k with
  | zero => simp only [leftTo]; split <;> omega
  | succ k ih =>
    simp only [leftTo]
    have key : leftAt o k ≤ leftAt d k ∧ leftAt d k ≤ leftAt o k + (if (k : Int) + 1 = d.line then 1 else 0) := by
      unfold leftAt
      rw [h1, h2, h3, h4]
      by_cases hk : k < d.lines.length
      · simp only [hk, ↓reduceDIte]
        split
        · split <;> omega
        · split <;> omega
      · simp only [hk, ↓reduceDIte]
        split <;> omega
    obtain ⟨i1, i2⟩ := ih
    obtain ⟨k1, k2⟩ := key
    refine ⟨by omega, ?_⟩
    split at i2 <;> split at k2 <;> split <;> omega
theorem open_wait {d o : DayC} (h1 : o.lines = d.lines) (h2 : o.line = d.line) : ∀ k, openTo o k = openTo d k := by
  intro k
  induction k with
  | zero => rfl
  | succ k ih =>
    have e1 : openB o k = openB d k := by unfold openB; rw [h1, h2]
    have e2 : mAt o k = mAt d k := by unfold mAt; simp only [h1]
    simp only [openTo, ih, e1, e2]
theorem open_todo (d : DayC) : ∀ k, (openTo d k).length ≤ (todoTo d.lines k).length := by
  intro k
  induction k with
  | zero => exact Nat.le_refl _
  | succ k ih =>
    have hb : openB d k = true → doneAt d.lines k = false := by
      intro h
      unfold openB at h
      rw [Bool.and_eq_true] at h
      simpa using h.1
    simp only [openTo, todoTo]
    by_cases hd : doneAt d.lines k = true
    · have hb' : ¬ openB d k = true := fun h => by have := hb h; rw [hd] at this; cases this
      rw [if_neg hb', if_pos hd]
      exact ih
    · rw [if_neg hd]
      split
      · simp only [List.length_append, List.length_cons, List.length_nil]; omega
      · simp only [List.length_append, List.length_cons, List.length_nil]; omega
/-- With less time no more lines are possible. -/
theorem greedy_less {S : List Int} (hS : ∀ i j (_ : i ≤ j) (hj : j < S.length), S[i]'(by omega) ≤ S[j]) {L L' : Int} (hL : L' ≤ L) : ∀ k,
    ((greedy S L' k).1 = (greedy S L k).1 ∧ (greedy S L' k).2 ≤ (greedy S L k).2) ∨ ((greedy S L' k).1 ≤ (greedy S L k).1 ∧ ∀ j (hj : j < S.length), k ≤ j → (greedy S L' k).2 < S[j]) := by
  intro k
  induction k with
  | zero => exact .inl ⟨rfl, hL⟩
  | succ k ih =>
    by_cases hk : k < S.length
    · rcases ih with ⟨i1, i2⟩ | ⟨i1, i2⟩
      · by_cases hf : S[k] ≤ (greedy S L' k).2
        · rw [greedy_yes hk hf, greedy_yes hk (by omega)]
          exact .inl ⟨by simp only; omega, by simp only; omega⟩
        · rw [greedy_no hk hf]
          refine .inr ⟨?_, fun j hj hkj => ?_⟩
          · by_cases hg : S[k] ≤ (greedy S L k).2
            · rw [greedy_yes hk hg]; simp only; omega
            · rw [greedy_no hk hg]; omega
          · have := hS k j (by omega) hj
            omega
      · have hf : ¬ S[k] ≤ (greedy S L' k).2 := by have := i2 k hk (Nat.le_refl _); omega
        rw [greedy_no hk hf]
        refine .inr ⟨?_, fun j hj hkj => i2 j hj (by omega)⟩
        by_cases hg : S[k] ≤ (greedy S L k).2
        · rw [greedy_yes hk hg]; simp only; omega
        · rw [greedy_no hk hg]; omega
    · have e1 : greedy S L (k + 1) = greedy S L k := by simp [greedy, hk]
      have e2 : greedy S L' (k + 1) = greedy S L' k := by simp [greedy, hk]
      rw [e1, e2]
      rcases ih with h | ⟨i1, i2⟩
      · exact .inl h
      · exact .inr ⟨i1, fun j hj hkj => i2 j hj (by omega)⟩
theorem most_todo (d : DayC) (h : d.ok = true) : (mostF d).1 ≤ ((todoF d).length : Int) := by
  have hb := DayC.bounds h
  have h1 := (greedy_bounds h (1440 - d.minute) (by omega) (sOf d).length).2.1
  have h2 : (sOf d).length = (openTo d d.lines.length).length := by rw [sOf, (srt_perm _).length_eq]
  have h3 := open_todo d d.lines.length
  have e1 : todoF d = todoTo d.lines d.lines.length := by simp [todoF, h]
  have e2 : (mostF d).1 = (greedy (sOf d) (1440 - d.minute) (sOf d).length).1 := by simp [mostF, h]
  rw [e1, e2]
  omega
/-- What is left after a minute's waiting. -/
theorem wait_law {d o : DayC} (h : stepAll d 1 1 = (o, true)) :
    d.ok = true ∧ o.ok = true ∧ (leftF o).1 ≤ (leftF d).1 ∧ (leftF d).1 - 1 ≤ (leftF o).1 ∧ (mostF o).1 ≤ (mostF d).1 := by
  obtain ⟨hd, ho, h1, h2, h3, h4⟩ := wait_one h
  have hl := left_wait h1 h2 h3 h4 d.lines.length
  have e1 : (leftF d).1 = leftTo d d.lines.length := by simp [leftF, hd]
  have e2 : (leftF o).1 = leftTo o d.lines.length := by simp [leftF, ho, h1]
  have e3 : (mostF d).1 = (greedy (sOf d) (1440 - d.minute) (sOf d).length).1 := by simp [mostF, hd]
  have e4 : sOf o = sOf d := by simp only [sOf, h1, open_wait h1 h2]
  have e5 : (mostF o).1 = (greedy (sOf d) (1440 - (d.minute + 1)) (sOf d).length).1 := by simp [mostF, ho, e4, h4]
  refine ⟨hd, ho, ?_, ?_, ?_⟩
  · rw [e1, e2]; exact hl.1
  · rw [e1, e2]; have := hl.2; split at this <;> omega
  · rw [e3, e5]
    rcases greedy_less (S := sOf d) (fun i j hij hj => sOf_le d hij hj) (show 1440 - (d.minute + 1) ≤ 1440 - d.minute by omega) (sOf d).length with ⟨i1, _⟩ | ⟨i1, _⟩
    · omega
    · exact i1
end Go.Proofs.YtcljcbbkbepmjaaDoor
