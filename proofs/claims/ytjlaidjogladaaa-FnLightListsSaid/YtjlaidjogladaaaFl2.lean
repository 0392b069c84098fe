/- Lists of lights: what is lit is seen, at a dark moment nothing is lit, and lights that look alike have one period. Plain laws; no program in sight. -/
import Derived.Test.YtjlaidjogladaaaLi7
import Derived.Test.YtjlaidjogladaaaLk5
import Derived.Test.YtjlaidjogladaaaLp1
namespace Go.Proofs.Ytjlaidjogladaaa

theorem mem_where {p : LightC → Bool} {L : List LightV} {y : Int} : ∀ {k : Nat}, y ∈ whereTo p L k → ∃ (i : Nat) (h : i < L.length), i < k ∧ p L[i].core = true ∧ y = L[i].core.id := by
  intro k
  induction k with
  | zero => intro h; simp [whereTo] at h
  | succ k ih =>
    intro h
    simp only [whereTo] at h
    split at h
    · rename_i hk
      split at h
      · rename_i hp
        rcases List.mem_append.1 h with h | h
        · obtain ⟨i, h1, h2, h3⟩ := ih h; exact ⟨i, h1, by omega, h3⟩
        · simp at h; exact ⟨k, hk, by omega, hp, h⟩
      · obtain ⟨i, h1, h2, h3⟩ := ih h; exact ⟨i, h1, by omega, h3⟩
    · obtain ⟨i, h1, h2, h3⟩ := ih h; exact ⟨i, h1, by omega, h3⟩
theorem where_mem {p : LightC → Bool} {L : List LightV} {i : Nat} (hi : i < L.length) (hp : p L[i].core = true) : ∀ {k : Nat}, i < k → L[i].core.id ∈ whereTo p L k := by
  intro k
  induction k with
  | zero => intro h; omega
  | succ k ih =>
    intro h
    by_cases e : i = k
    · subst e
      rw [whereTo_yes hi hp]
      simp
    · have := ih (by omega)
      simp only [whereTo]
      split
      · split
        · exact List.mem_append.2 (.inl this)
        · exact this
      · exact this
/-- Lights that are lit are seen. -/
theorem lit_seen {L : List LightV} {x y m : Int} {R S : List Int} {o q : Bool} (h1 : whereF (litP x y m) (spotB x y && inB m 0 1000000) L = (R, o)) (h2 : whereF (seenP x y) (spotB x y) L = (S, q)) :
    ∀ z ∈ R, q = true ∧ z ∈ S := by
  intro z hz
  unfold whereF at h1 h2
  split at h1
  · rename_i hg
    simp only [Bool.and_eq_true] at hg
    rw [if_pos (by simp [hg.1, hg.2.1])] at h2
    injection h1 with h3 h4
    injection h2 with h5 h6
    subst h3 h5
    obtain ⟨i, hi, _, hp, rfl⟩ := mem_where hz
    simp only [litP, Bool.and_eq_true] at hp
    exact ⟨h6.symm, where_mem hi hp.1 hi⟩
  · injection h1 with h3 h4
    subst h3
    cases hz
theorem dark_find {L : List LightV} : ∀ {n : Nat} {m d : Int}, findDark L n m = (d, true) → m ≤ d ∧ inB d 0 1000000 = true ∧ noLit L d L.length = true := by
  intro n
  induction n with
  | zero => intro m d h; cases h
  | succ n ih =>
    intro m d h
    simp only [findDark] at h
    split at h
    · rename_i hm
      split at h
      · rename_i hn
        injection h with h1 h2
        subst h1
        exact ⟨Int.le_refl _, hm, hn⟩
      · obtain ⟨h1, h2⟩ := ih h
        exact ⟨by omega, h2⟩
    · cases h
/-- At a dark moment nothing is lit anywhere. -/
theorem dark_law {L : List LightV} {fr d : Int} (h : darkF L fr = (d, true)) (x y : Int) (hs : spotB x y = true) : fr ≤ d ∧ 0 ≤ d ∧ d ≤ 1000000 ∧ whereF (litP x y d) (spotB x y && inB d 0 1000000) L = ([], true) := by
  unfold darkF at h
  split at h
  · rename_i hg
    simp only [Bool.and_eq_true] at hg
    obtain ⟨h1, h2, h3⟩ := dark_find h
    have hb : 0 ≤ d ∧ d ≤ 1000000 := by simpa [inB] using h2
    refine ⟨h1, hb.1, hb.2, ?_⟩
    unfold whereF
    rw [if_pos (by simp [hg.1, hs, h2])]
    have e : whereTo (litP x y d) L L.length = [] := by
      apply List.eq_nil_iff_forall_not_mem.2
      intro z hz
      obtain ⟨i, hi, _, hp, _⟩ := mem_where hz
      simp only [litP, Bool.and_eq_true] at hp
      have h4 := allUpto_iff.1 h3 i hi
      simp only [hi, ↓reduceDIte, hp.2] at h4
      cases h4
    rw [e]
  · cases h
theorem mem_pairsIn {L : List LightV} {i : Nat} {z : Int × Int} : ∀ {m : Nat}, z ∈ pairsIn L i m → ∃ (k : Nat) (hi : i < L.length) (hk : k < L.length), pairB L[i].core L[k].core = true ∧ z = (L[i].core.id, L[k].core.id) := by
  intro m
  induction m with
  | zero => intro h; simp [pairsIn] at h
  | succ m ih =>
    intro h
    simp only [pairsIn] at h
    rcases List.mem_append.1 h with h | h
    · exact ih h
    · split at h
      · rename_i hk
        split at h
        · rename_i hp
          simp at h
          exact ⟨_, by omega, hk, hp, h⟩
        · cases h
      · cases h
theorem mem_pairsTo {L : List LightV} {z : Int × Int} : ∀ {i : Nat}, z ∈ pairsTo L i → ∃ (i k : Nat) (hi : i < L.length) (hk : k < L.length), pairB L[i].core L[k].core = true ∧ z = (L[i].core.id, L[k].core.id) := by
  intro i
  induction i with
  | zero => intro h; simp [pairsTo] at h
  | succ i ih =>
    intro h
    simp only [pairsTo] at h
    rcases List.mem_append.1 h with h | h
    · exact ih h
    · obtain ⟨k, hi, hk, h1, h2⟩ := mem_pairsIn h
      exact ⟨i, k, hi, hk, h1, h2⟩
theorem ids_rise {L : List LightV} (h : lightsB L = true) : ∀ {j i : Nat} (hi : i < L.length) (hj : j < L.length), i < j → L[i].core.id < L[j].core.id := by
  have hall : allUpto (ltStep L) L.length = true := by
    unfold lightsB at h
    simp only [Bool.and_eq_true] at h
    exact h.1
  intro j
  induction j with
  | zero => intro i hi hj hij; omega
  | succ j ih =>
    intro i hi hj hij
    have h1 := allUpto_iff.1 hall (j + 1) hj
    have h2 : L[j].core.id < L[j + 1].core.id := by
      simp only [ltStep, hj, ↓reduceDIte, Bool.and_eq_true] at h1
      grind
    by_cases e : i = j
    · subst e; exact h2
    · have := ih hi (by omega) (by omega)
      omega
theorem ids_one {L : List LightV} (h : lightsB L = true) {i j : Nat} (hi : i < L.length) (hj : j < L.length) (he : L[i].core.id = L[j].core.id) : i = j := by
  rcases Nat.lt_trichotomy i j with h1 | h1 | h1
  · have := ids_rise h hi hj h1; omega
  · exact h1
  · have := ids_rise h hj hi h1; omega
theorem per_ten {l m : List PhaseR} (h : tenOf l = tenOf m) : per l = per m := by
  have e : ∀ l : List PhaseR, per l = ((tenOf l).map Int.toNat).sum := by
    intro l
    simp only [per, perTo, tenOf, List.take_length, List.map_map]
    rfl
  rw [e, e, h]
/-- Lights that look alike have one period. -/
theorem pairs_law {L : List LightV} {R : List (Int × Int)} {o : Bool} (h : pairsF L = (R, o)) {z : Int × Int} (hz : z ∈ R) {i j : Nat} (hi : i < L.length) (hj : j < L.length) (h1 : L[i].core.id = z.1) (h2 : L[j].core.id = z.2) :
    L[i].core.ok = true ∧ L[j].core.ok = true ∧ per L[i].core.ph = per L[j].core.ph := by
  unfold pairsF at h
  split at h
  · rename_i hg
    injection h with h3 h4
    subst h3
    obtain ⟨a, b, ha, hb, hp, rfl⟩ := mem_pairsTo hz
    have e1 := ids_one hg hi ha h1
    have e2 := ids_one hg hj hb h2
    subst e1 e2
    refine ⟨lights_ok hg hi, lights_ok hg hj, per_ten ?_⟩
    simp only [pairB, alikeB, Bool.and_eq_true, decide_eq_true_eq] at hp
    exact hp.1
  · injection h with h3 h4
    subst h3
    cases hz
end Go.Proofs.Ytjlaidjogladaaa
