/- Logs that are joined, cut and spoilt: what is read of them. No program in sight. -/
import Derived.Test.YtfnbbmhhilffeaaDoorGM2
namespace Go.Proofs.YtfnbbmhhilffeaaDoor
open Go.RowKit

theorem headB_more {s t : Bytes} {k : Nat} {e : RecR} {n : Nat} (h : headB s k = some (e, n)) : headB (s ++ t) k = some (e, n) := by
  obtain ⟨h1, h2, h3, h4⟩ := headB_some h
  have : s ++ t = e.line k ++ 10 :: (s.drop n ++ t) := by
    conv => lhs; rw [h4]
    simp
  rw [this, headB_line h2 h1, h3]
theorem opens_nil (f k : Nat) : opens f [] k = [] := by
  cases f with
  | zero => rfl
  | succ f =>
    have : headB [] k = none := by unfold headB; simp [cutB]
    rw [opens_succ_none this]
/-- A text behind records throughout. -/
theorem opens_join : ∀ (f : Nat) (s t : Bytes) (k : Nat), endOf (opens f s k) = s.length → opens f (s ++ t) k = opens f s k ++ opens (f - (opens f s k).length) t (k + (opens f s k).length) := by
  intro f
  induction f with
  | zero =>
    intro s t k h
    simp [opens]
  | succ f ih =>
    intro s t k h
    cases hh : headB s k with
    | none =>
      rw [opens_succ_none hh] at h ⊢
      rw [endOf_nil] at h
      have : s = [] := List.eq_nil_of_length_eq_zero h.symm
      subst this
      simp
    | some p =>
      obtain ⟨e, n⟩ := p
      obtain ⟨hn0, hn1, _⟩ := headB_lt hh
      rw [opens_succ_some hh] at h ⊢
      rw [endOf_cons] at h
      simp only at h
      rw [opens_succ_some (headB_more hh), List.drop_append_of_le_length hn1, ih (s.drop n) t (k + 1) (by rw [List.length_drop]; omega)]
      simp only [List.length_cons, List.cons_append]
      rw [show f + 1 - ((opens f (s.drop n) (k + 1)).length + 1) = f - (opens f (s.drop n) (k + 1)).length by omega, show k + ((opens f (s.drop n) (k + 1)).length + 1) = k + 1 + (opens f (s.drop n) (k + 1)).length by omega]
/-- What is read of the part that has been read. -/
theorem opens_part : ∀ (f : Nat) (s : Bytes) (k : Nat), opens f (s.take (endOf (opens f s k))) k = opens f s k := by
  intro f
  induction f with
  | zero => intro s k; rfl
  | succ f ih =>
    intro s k
    cases hh : headB s k with
    | none => rw [opens_succ_none hh, endOf_nil, List.take_zero, opens_nil]
    | some p =>
      obtain ⟨e, n⟩ := p
      obtain ⟨hn0, hn1, _⟩ := headB_lt hh
      obtain ⟨h1, h2, h3, h4⟩ := headB_some hh
      have hE := opens_end f (s.drop n) (k + 1)
      rw [opens_succ_some hh, endOf_cons]
      simp only
      have hl : (e.line k ++ [10]).length = n := by simp; omega
      have hg : ∀ E : Nat, s.take (n + E) = e.line k ++ 10 :: (s.drop n).take E := by
        intro E
        have : s = (e.line k ++ [10]) ++ s.drop n := by
          conv => lhs; rw [h4]
          simp
        generalize s.drop n = t at this
        rw [this, List.take_append, List.take_of_length_le (by omega), hl, Nat.add_sub_cancel_left]
        simp
      have hs := hg (endOf (opens f (s.drop n) (k + 1)))
      have hd : (e.line k ++ 10 :: (s.drop n).take (endOf (opens f (s.drop n) (k + 1)))).drop n = (s.drop n).take (endOf (opens f (s.drop n) (k + 1))) := by
        rw [h3]; exact drop_line rfl
      rw [hs, opens_succ_some (headB_line h2 h1 _), ← h3, hd, ih (s.drop n) (k + 1)]
/-- A text of which less is there, and of which the last byte may be spoilt. -/
def Spoilt (p q : Bytes) : Prop := q.length ≤ p.length ∧ ∀ i (h : i < q.length), (i + 1 < q.length ∨ q[i] = 10) → q[i]? = p[i]?
theorem Spoilt.head {p q : Bytes} {k : Nat} {e : RecR} {n : Nat} (h : Spoilt p q) (hh : headB q k = some (e, n)) : headB p k = some (e, n) ∧ Spoilt (p.drop n) (q.drop n) := by
  obtain ⟨h1, h2, h3, h4⟩ := headB_some hh
  obtain ⟨hn0, hn1, _⟩ := headB_lt hh
  have hq : ∀ i, i < n → q[i]? = (e.line k ++ [10])[i]? := by
    intro i hi
    rw [h4]
    have : e.line k ++ 10 :: q.drop n = (e.line k ++ [10]) ++ q.drop n := by simp
    rw [this, List.getElem?_append_left (by simp; omega)]
  have hlast : q[n - 1]? = some 10 := by
    rw [hq (n - 1) (by omega), List.getElem?_append_right (by omega)]
    rw [h3]; simp
  have hp : ∀ i, i < n → p[i]? = (e.line k ++ [10])[i]? := by
    intro i hi
    rw [← hq i hi]
    refine (h.2 i (by omega) ?_).symm
    by_cases hi2 : i + 1 < q.length
    · exact .inl hi2
    · right
      have : i = n - 1 := by omega
      subst this
      have := (List.getElem?_eq_some_iff.1 hlast).2
      exact this
  have hl : (e.line k ++ [10]).length = n := by simp; omega
  have hpt : p = (e.line k ++ [10]) ++ p.drop n := by
    have h5 : p.take n = e.line k ++ [10] := by
      apply List.ext_getElem?
      intro i
      by_cases hi : i < n
      · rw [List.getElem?_take, if_pos hi]; exact hp i hi
      · rw [List.getElem?_take, if_neg hi, List.getElem?_eq_none (by omega)]
    rw [← h5, List.take_append_drop]
  refine ⟨?_, ?_, fun i hi hc => ?_⟩
  · have h6 := headB_line h2 h1 (p.drop n)
    generalize p.drop n = t at hpt h6
    rw [hpt, h3]
    simpa using h6
  · have := h.1
    simp only [List.length_drop]; omega
  · rw [List.length_drop] at hi
    rw [List.getElem?_drop, List.getElem?_drop]
    refine h.2 (n + i) (by omega) ?_
    rcases hc with hc | hc
    · rw [List.length_drop] at hc; exact .inl (by omega)
    · rw [List.getElem_drop] at hc; exact .inr hc
theorem opens_spoilt : ∀ (f : Nat) (p q : Bytes) (k : Nat), Spoilt p q → ∃ r, opens f p k = opens f q k ++ r := by
  intro f
  induction f with
  | zero => intro p q k _; exact ⟨[], rfl⟩
  | succ f ih =>
    intro p q k h
    cases hh : headB q k with
    | none => rw [opens_succ_none hh]; exact ⟨_, rfl⟩
    | some x =>
      obtain ⟨e, n⟩ := x
      obtain ⟨h1, h2⟩ := h.head hh
      obtain ⟨r, hr⟩ := ih (p.drop n) (q.drop n) (k + 1) h2
      rw [opens_succ_some hh, opens_succ_some h1, hr]
      exact ⟨r, rfl⟩
/-- The bytes of records are below 128. -/
theorem line_low {e : RecR} (h : e.ok = true) (k : Nat) : ∀ c ∈ e.line k, c.toNat < 128 := by
  obtain ⟨_, _, h1, _, h2, _⟩ := RecR.parts h
  intro c hc
  unfold RecR.line lineB textB at hc
  rcases List.mem_append.1 hc with hc | hc
  · rcases List.mem_append.1 hc with hc | hc
    · have := num_bytes k (by omega) c hc; omega
    · rcases List.mem_cons.1 hc with rfl | hc
      · decide
      · rcases List.mem_append.1 hc with hc | hc
        · have := plain_bytes h1 c hc; omega
        · rcases List.mem_cons.1 hc with rfl | hc
          · decide
          · have := plain_bytes h2 c hc; omega
  · rcases List.mem_cons.1 hc with rfl | hc
    · decide
    · have := num_bytes _ (sumL_range _).1 c hc; omega
theorem opens_low : ∀ (f : Nat) (s : Bytes) (k : Nat), endOf (opens f s k) = s.length → ∀ c ∈ s, c.toNat < 128 := by
  intro f
  induction f with
  | zero =>
    intro s k h c hc
    have : s = [] := List.eq_nil_of_length_eq_zero h.symm
    subst this; cases hc
  | succ f ih =>
    intro s k h c hc
    cases hh : headB s k with
    | none =>
      rw [opens_succ_none hh, endOf_nil] at h
      have : s = [] := List.eq_nil_of_length_eq_zero h.symm
      subst this; cases hc
    | some p =>
      obtain ⟨e, n⟩ := p
      obtain ⟨hn0, hn1, _⟩ := headB_lt hh
      obtain ⟨h1, h2, h3, h4⟩ := headB_some hh
      rw [opens_succ_some hh, endOf_cons] at h
      simp only at h
      rw [h4] at hc
      rcases List.mem_append.1 hc with hc | hc
      · exact line_low h2 k c hc
      · rcases List.mem_cons.1 hc with rfl | hc
        · decide
        · exact ih (s.drop n) (k + 1) (by rw [List.length_drop]; omega) c hc
theorem spoilt_take (p : Bytes) (m : Nat) (hm : m ≤ p.length) : Spoilt p (p.take m) := by
  refine ⟨by simp; omega, fun i hi _ => ?_⟩
  rw [List.length_take] at hi
  rw [List.getElem?_take, if_pos (by omega)]
theorem spoilt_last (p : Bytes) (m : Nat) (hm : m + 1 ≤ p.length) (c : UInt8) (hc : c ≠ 10) : Spoilt p ((p.take (m + 1)).set m c) := by
  have hl : ((p.take (m + 1)).set m c).length = m + 1 := by simp; omega
  refine ⟨by omega, fun i hi h => ?_⟩
  by_cases him : i = m
  · subst him
    rcases h with h | h
    · omega
    · rw [List.getElem_set_self] at h; exact absurd h hc
  · rw [List.getElem?_set_ne (by omega), List.getElem?_take, if_pos (by omega)]
/-- The records ahead of the cut, and those behind. -/
theorem opensF_join {s t : Bytes} (h : endOf (opensF s) = s.length) : opensF (s ++ t) = opensF s ++ opens (61 - (opensF s).length) t (opensF s).length := by
  have := opens_join 61 s t 0 h
  rwa [Nat.zero_add] at this
theorem opensF_part (s : Bytes) : opensF (s.take (endOf (opensF s))) = opensF s := opens_part 61 s 0
theorem endOf_app (a b : List (RecR × Nat)) : endOf (a ++ b) = endOf a + endOf b := by simp [endOf]
theorem opens_one {e : RecR} (h : e.ok = true) {f k : Nat} (hf : 0 < f) (hk : k < 60) : opens f (e.line k ++ [10]) k = [(e, (e.line k).length + 1)] := by
  obtain ⟨g, rfl⟩ : ∃ g, f = g + 1 := ⟨f - 1, by omega⟩
  rw [opens_succ_some (headB_line h hk []), drop_line rfl, opens_nil]
/-- The value of a numeral. -/
def valB (s : Bytes) : Nat := s.foldl (fun v c => 10 * v + (c.toNat - 48)) 0
theorem dig_val (u : Nat) : valB (Go.Lib.decDigits u) = u := by
  induction u using Nat.strongRecOn with
  | _ u ih =>
    rw [Go.Lib.decDigits]
    split
    · simp [valB]; omega
    · have h1 := ih (u / 10) (by omega)
      unfold valB at h1 ⊢
      rw [List.foldl_append, h1]
      simp; omega
theorem itoa_inj {k j : Nat} (h : Go.Lib.itoa (k : Int) = Go.Lib.itoa (j : Int)) : k = j := by
  unfold Go.Lib.itoa at h
  rw [if_neg (by omega), if_neg (by omega), Int.toNat_natCast, Int.toNat_natCast] at h
  rw [← dig_val k, h, dig_val]
/-- A record's line is read at its own place alone. -/
theorem line_place {e x : RecR} {k j : Nat} (h : e.line k = x.line j) (he : e.ok = true) (hx : x.ok = true) : k = j := by
  have h1 := congrArg (fun s => (cutB 32 (cutB 35 s).1).1) h
  simp only [cut_text he, cut_text hx, textB, cut_num] at h1
  exact itoa_inj h1
end Go.Proofs.YtfnbbmhhilffeaaDoor
