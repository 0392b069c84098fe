/- How many lines are possible: the greedy count over the sorted minutes is what picking the least again and again gives. No program in sight. -/
import Derived.Test.YtcljcbbkbepmjaaDoorD3
namespace Go.Proofs.YtcljcbbkbepmjaaDoor

def mAt (v : DayC) (i : Nat) : Int := if h : i < v.lines.length then v.lines[i].minutes else 0
def openB (v : DayC) (i : Nat) : Bool := !doneAt v.lines i && decide ((i : Int) + 1 ≠ v.line)
def openTo (v : DayC) : Nat → List Int
  | 0 => []
  | k + 1 => if openB v k then openTo v k ++ [mAt v k] else openTo v k
theorem openTo_len (v : DayC) : ∀ k, (openTo v k).length ≤ k := by
  intro k
  induction k with
  | zero => simp [openTo]
  | succ k ih => simp only [openTo]; split <;> (try simp) <;> omega
def srt (l : List Int) : List Int := l.mergeSort fun x y => decide (x ≤ y)
def greedy (S : List Int) (L : Int) : Nat → Int × Int
  | 0 => (0, L)
  | k + 1 => if h : k < S.length then (if S[k] ≤ (greedy S L k).2 then ((greedy S L k).1 + 1, (greedy S L k).2 - S[k]) else greedy S L k) else greedy S L k
def remTo (v : DayC) (T : List Int) : Nat → List Int
  | 0 => []
  | k + 1 => if openB v k && !T.contains (k : Int) then remTo v T k ++ [mAt v k] else remTo v T k
theorem rem_nil (v : DayC) : ∀ k, remTo v [] k = openTo v k := by
  intro k
  induction k with
  | zero => rfl
  | succ k ih => simp [remTo, openTo, ih]
theorem has_snoc (T : List Int) (b k : Nat) : (T ++ [(b : Int)]).contains (k : Int) = (T.contains (k : Int) || decide (k = b)) := by
  simp only [List.contains_eq_mem, List.mem_append, List.mem_singleton]
  by_cases h : k = b
  · simp [h]
  · have : (k : Int) ≠ (b : Int) := by omega
    simp [h, this]
theorem rem_same (v : DayC) (T : List Int) (b : Nat) : ∀ k, k ≤ b → remTo v (T ++ [(b : Int)]) k = remTo v T k := by
  intro k
  induction k with
  | zero => intro _; rfl
  | succ k ih =>
    intro hk
    have h : decide (k = b) = false := by simp; omega
    simp only [remTo, ih (by omega), has_snoc, h, Bool.or_false]
theorem rem_cons (v : DayC) (T : List Int) (b : Nat) (ho : openB v b = true) (hT : T.contains (b : Int) = false) : ∀ k, b < k → (remTo v T k).Perm (mAt v b :: remTo v (T ++ [(b : Int)]) k) := by
  intro k
  induction k with
  | zero => intro h; omega
  | succ k ih =>
    intro hk
    by_cases h : k = b
    · subst h
      have h1 : remTo v T (k + 1) = remTo v T k ++ [mAt v k] := by simp only [remTo, ho, hT]; simp
      have h2 : remTo v (T ++ [(k : Int)]) (k + 1) = remTo v T k := by
        simp only [remTo, has_snoc, hT, ho]
        simp [rem_same v T k k (Nat.le_refl _)]
      rw [h1, h2]
      exact List.perm_append_singleton _ _
    · have hd : decide (k = b) = false := by simp [h]
      have hi := ih (by omega)
      simp only [remTo, has_snoc, hd, Bool.or_false]
      split
      · exact (hi.append_right [mAt v k]).trans (by simp)
      · exact hi
theorem mem_rem (v : DayC) (T : List Int) (x : Int) : ∀ k, x ∈ remTo v T k ↔ ∃ i, i < k ∧ openB v i = true ∧ T.contains (i : Int) = false ∧ x = mAt v i := by
  intro k
  induction k with
  | zero => simp [remTo]
  | succ k ih =>
    simp only [remTo]
    constructor
    · intro h
      split at h
      · rename_i hc
        simp only [Bool.and_eq_true, Bool.not_eq_true'] at hc
        rcases List.mem_append.1 h with h | h
        · obtain ⟨i, h1, h2⟩ := ih.1 h; exact ⟨i, by omega, h2⟩
        · simp at h; exact ⟨k, by omega, hc.1, hc.2, h⟩
      · obtain ⟨i, h1, h2⟩ := ih.1 h; exact ⟨i, by omega, h2⟩
    · rintro ⟨i, h1, h2, h3, h4⟩
      by_cases hik : i = k
      · subst hik
        rw [if_pos (by simp only [h2, h3]; rfl)]
        exact List.mem_append.2 (.inr (by simp [h4]))
      · have := ih.2 ⟨i, by omega, h2, h3, h4⟩
        split
        · exact List.mem_append.2 (.inl this)
        · exact this
/-- What the inner search has found among the first k. -/
def BestR (v : DayC) (T : List Int) (k : Nat) (best : Int) : Prop :=
  (best = -1 ∧ ∀ i, i < k → openB v i = true → T.contains (i : Int) = true) ∨
  (∃ b : Nat, best = (b : Int) ∧ b < k ∧ openB v b = true ∧ T.contains (b : Int) = false ∧ ∀ i, i < k → openB v i = true → T.contains (i : Int) = false → mAt v b ≤ mAt v i)
theorem BestR.zero (v : DayC) (T : List Int) : BestR v T 0 (-1) := .inl ⟨rfl, fun i h => by omega⟩
theorem BestR.skip {v : DayC} {T : List Int} {k : Nat} {best : Int} (h : BestR v T k best) (hk : openB v k = false ∨ T.contains (k : Int) = true) : BestR v T (k + 1) best := by
  rcases h with ⟨h1, h2⟩ | ⟨b, h1, h2, h3, h4, h5⟩
  · refine .inl ⟨h1, fun i hi ho => ?_⟩
    by_cases e : i = k
    · subst e; rcases hk with hk | hk
      · rw [hk] at ho; cases ho
      · exact hk
    · exact h2 i (by omega) ho
  · refine .inr ⟨b, h1, by omega, h3, h4, fun i hi ho hc => ?_⟩
    by_cases e : i = k
    · subst e; rcases hk with hk | hk
      · rw [hk] at ho; cases ho
      · rw [hk] at hc; cases hc
    · exact h5 i (by omega) ho hc
theorem BestR.first {v : DayC} {T : List Int} {k : Nat} (h : BestR v T k (-1)) (ho : openB v k = true) (hc : T.contains (k : Int) = false) : BestR v T (k + 1) k := by
  rcases h with ⟨_, h2⟩ | ⟨b, h1, _⟩
  · refine .inr ⟨k, rfl, by omega, ho, hc, fun i hi ho' hc' => ?_⟩
    by_cases e : i = k
    · subst e; exact Int.le_refl _
    · have := h2 i (by omega) ho'; rw [this] at hc'; cases hc'
  · omega
theorem BestR.less {v : DayC} {T : List Int} {k b : Nat} (h : BestR v T k (b : Int)) (ho : openB v k = true) (hc : T.contains (k : Int) = false) (hl : mAt v k < mAt v b) : BestR v T (k + 1) k := by
  rcases h with ⟨h1, _⟩ | ⟨b', h1, h2, h3, h4, h5⟩
  · omega
  · obtain rfl : b = b' := by omega
    refine .inr ⟨k, rfl, by omega, ho, hc, fun i hi ho' hc' => ?_⟩
    by_cases e : i = k
    · subst e; exact Int.le_refl _
    · have := h5 i (by omega) ho' hc'; omega
theorem BestR.more {v : DayC} {T : List Int} {k b : Nat} (h : BestR v T k (b : Int)) (hl : ¬ mAt v k < mAt v b) : BestR v T (k + 1) b := by
  rcases h with ⟨h1, _⟩ | ⟨b', h1, h2, h3, h4, h5⟩
  · omega
  · obtain rfl : b = b' := by omega
    refine .inr ⟨b, rfl, by omega, h3, h4, fun i hi ho' hc' => ?_⟩
    by_cases e : i = k
    · subst e; omega
    · exact h5 i (by omega) ho' hc'
def sOf (v : DayC) : List Int := srt (openTo v v.lines.length)
def Picked (v : DayC) (T : List Int) (left : Int) : Prop :=
  (remTo v T v.lines.length).Perm ((sOf v).drop T.length) ∧ T.length ≤ (sOf v).length ∧ greedy (sOf v) (1440 - v.minute) T.length = ((T.length : Int), left)
theorem srt_perm (l : List Int) : (srt l).Perm l := List.mergeSort_perm _ _
theorem srt_le (l : List Int) {i j : Nat} (hij : i ≤ j) (hj : j < (srt l).length) : (srt l)[i] ≤ (srt l)[j] := by
  have hp : (srt l).Pairwise (fun a b => decide (a ≤ b) = true) := List.pairwise_mergeSort (fun a b c => by simp; omega) (fun a b => by simp; omega) l
  by_cases e : i = j
  · subst e; exact Int.le_refl _
  · have := List.pairwise_iff_getElem.1 hp i j (by omega) hj (by omega)
    simpa using this
theorem sOf_le (v : DayC) {i j : Nat} (hij : i ≤ j) (hj : j < (sOf v).length) : (sOf v)[i] ≤ (sOf v)[j] := srt_le _ hij hj
theorem Picked.start (v : DayC) : Picked v [] (1440 - v.minute) := ⟨by rw [rem_nil]; exact (srt_perm _).symm, by simp, by simp [greedy]⟩
theorem Picked.least {v : DayC} {T : List Int} {left : Int} {b : Nat} (h : Picked v T left) (hb : BestR v T v.lines.length (b : Int)) : ∃ ht : T.length < (sOf v).length, (sOf v)[T.length] = mAt v b := by
  obtain ⟨hp, _, _⟩ := h
  rcases hb with ⟨h1, _⟩ | ⟨b', h1, h2, h3, h4, h5⟩
  · omega
  · obtain rfl : b = b' := by omega
    have hm : mAt v b ∈ (sOf v).drop T.length := hp.mem_iff.1 ((mem_rem v T _ _).2 ⟨b, h2, h3, h4, rfl⟩)
    have ht : T.length < (sOf v).length := by
      rcases Nat.lt_or_ge T.length (sOf v).length with h | h
      · exact h
      · rw [List.drop_eq_nil_of_le h] at hm; cases hm
    refine ⟨ht, Int.le_antisymm ?_ ?_⟩
    · obtain ⟨i, hi, e⟩ := List.mem_iff_getElem.1 hm
      rw [List.getElem_drop] at e
      rw [← e]
      exact sOf_le v (by omega) _
    · have h6 : (sOf v)[T.length] ∈ (sOf v).drop T.length := List.mem_iff_getElem.2 ⟨0, by rw [List.length_drop]; omega, by rw [List.getElem_drop]; rfl⟩
      obtain ⟨i, hi, ho, hc, e⟩ := (mem_rem v T _ _).1 (hp.mem_iff.2 h6)
      rw [e]
      exact h5 i hi ho hc
theorem Picked.step {v : DayC} {T : List Int} {left : Int} {b : Nat} (h : Picked v T left) (hb : BestR v T v.lines.length (b : Int)) (hl : mAt v b ≤ left) : Picked v (T ++ [(b : Int)]) (left - mAt v b) := by
  obtain ⟨ht, e⟩ := h.least hb
  obtain ⟨hp, h1, hg⟩ := h
  rcases hb with ⟨h0, _⟩ | ⟨b', h0, h2, h3, h4, h5⟩
  · omega
  · obtain rfl : b = b' := by omega
    refine ⟨?_, by simp; omega, ?_⟩
    · have hq := (rem_cons v T b h3 h4 v.lines.length h2).symm.trans hp
      rw [List.drop_eq_getElem_cons ht, e] at hq
      simpa using hq.cons_inv
    · have : (T ++ [(b : Int)]).length = T.length + 1 := by simp
      rw [this]
      simp only [greedy, ht, ↓reduceDIte, hg, e, hl, if_true]
      simp
theorem Picked.none {v : DayC} {T : List Int} {left : Int} (h : Picked v T left) (hb : BestR v T v.lines.length (-1)) : T.length = (sOf v).length := by
  obtain ⟨hp, h1, _⟩ := h
  rcases hb with ⟨_, h2⟩ | ⟨b', h0, _⟩
  · have : remTo v T v.lines.length = [] := by
      apply List.eq_nil_iff_forall_not_mem.2
      intro x hx
      obtain ⟨i, hi, ho, hc, _⟩ := (mem_rem v T _ _).1 hx
      rw [h2 i hi ho] at hc; cases hc
    rw [this] at hp
    have := hp.symm.eq_nil
    have := List.drop_eq_nil_iff.1 this
    omega
  · omega
theorem greedy_stuck {S : List Int} {L left c : Int} {t : Nat} (hg : greedy S L t = (c, left)) (hs : ∀ j (hj : j < S.length), t ≤ j → left < S[j]) : ∀ k, t ≤ k → greedy S L k = (c, left) := by
  intro k
  induction k with
  | zero => intro h; obtain rfl : t = 0 := by omega
            exact hg
  | succ k ih =>
    intro h
    by_cases e : t = k + 1
    · subst e; exact hg
    · have hk := ih (by omega)
      simp only [greedy, hk]
      split
      · rename_i hlt
        rw [if_neg (by have := hs k hlt (by omega); omega)]
      · rfl
theorem Picked.stop {v : DayC} {T : List Int} {left : Int} {b : Nat} (h : Picked v T left) (hb : BestR v T v.lines.length (b : Int)) (hl : left < mAt v b) : (greedy (sOf v) (1440 - v.minute) (sOf v).length).1 = T.length := by
  obtain ⟨ht, e⟩ := h.least hb
  rw [greedy_stuck h.2.2 (fun j hj htj => Int.lt_of_lt_of_le (by rw [e]; exact hl) (sOf_le v htj hj)) _ (by omega)]
theorem Picked.full {v : DayC} {T : List Int} {left : Int} (h : Picked v T left) (hl : T.length = (sOf v).length) : (greedy (sOf v) (1440 - v.minute) (sOf v).length).1 = T.length := by rw [← hl, h.2.2]
theorem sOf_len (v : DayC) : (sOf v).length ≤ v.lines.length := by rw [sOf, (srt_perm _).length_eq]; exact openTo_len _ _
def mostF (v : DayC) : Int × Bool := if v.ok then ((greedy (sOf v) (1440 - v.minute) (sOf v).length).1, true) else (0, false)
end Go.Proofs.YtcljcbbkbepmjaaDoor
