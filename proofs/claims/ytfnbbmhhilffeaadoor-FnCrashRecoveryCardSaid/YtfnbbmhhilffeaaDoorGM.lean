/- Cutting lists of bytes; the lines of a log. No program in sight. -/
import Derived.Test.YtfnbbmhhilffeaaDoorNm
import Derived.Test.YtfnbbmhhilffeaaDoorG0
import Derived.Test.YtfnbbmhhilffeaaDoorL1
import Derived.Lib.IndexMore
namespace Go.Proofs.YtfnbbmhhilffeaaDoor
open Go.RowKit

abbrev Bytes := List UInt8
/-- What stands ahead of the first b, what stands behind it, and whether there is one. -/
def cutB (b : UInt8) : Bytes → Bytes × Bytes × Bool
  | [] => ([], [], false)
  | c :: r => if c = b then ([], r, true) else (c :: (cutB b r).1, (cutB b r).2.1, (cutB b r).2.2)
theorem cutB_app (b : UInt8) (x r : Bytes) (h : ∀ c ∈ x, c ≠ b) : cutB b (x ++ b :: r) = (x, r, true) := by
  induction x with
  | nil => simp [cutB]
  | cons c x ih => simp [cutB, h c (by simp), ih (fun d hd => h d (by simp [hd]))]
theorem cutB_none (b : UInt8) (x : Bytes) (h : ∀ c ∈ x, c ≠ b) : cutB b x = (x, [], false) := by
  induction x with
  | nil => simp [cutB]
  | cons c x ih => simp [cutB, h c (by simp), ih (fun d hd => h d (by simp [hd]))]
theorem cutB_free (b : UInt8) (s : Bytes) : ∀ c ∈ (cutB b s).1, c ≠ b := by
  induction s with
  | nil => simp [cutB]
  | cons c r ih =>
    simp only [cutB]
    split
    · simp
    · rename_i h
      intro d hd
      rcases List.mem_cons.1 hd with rfl | hd
      · exact h
      · exact ih d hd
theorem cutB_found (b : UInt8) (s : Bytes) (h : (cutB b s).2.2 = true) : s = (cutB b s).1 ++ b :: (cutB b s).2.1 := by
  induction s with
  | nil => simp [cutB] at h
  | cons c r ih =>
    simp only [cutB] at h ⊢
    split
    · rename_i hc; subst hc; simp
    · rename_i hc
      rw [if_neg hc] at h
      simp only [List.cons_append]
      rw [← ih h]
theorem cutB_miss (b : UInt8) (s : Bytes) (h : (cutB b s).2.2 = false) : cutB b s = (s, [], false) := by
  induction s with
  | nil => rfl
  | cons c r ih =>
    simp only [cutB] at h ⊢
    split
    · rename_i hc; rw [if_pos hc] at h; cases h
    · rename_i hc
      rw [if_neg hc] at h
      simp [ih h]
theorem cutB_len (b : UInt8) (s : Bytes) : (cutB b s).1.length ≤ s.length := by
  cases h : (cutB b s).2.2
  · rw [cutB_miss b s h]; exact Nat.le_refl _
  · have := congrArg List.length (cutB_found b s h)
    simp at this; omega
theorem cut_one (b : UInt8) (s : Bytes) : Go.Lib.cut s [b] = cutB b s := by
  induction s with
  | nil => simp [Go.Lib.cut, Go.Lib.index, cutB]
  | cons c r ih =>
    have hp : ([b] : Bytes).isPrefixOf (c :: r) = (b == c) := by simp [List.isPrefixOf]
    simp only [Go.Lib.cut, Go.Lib.index, hp, cutB] at ih ⊢
    by_cases h : c = b
    · subst h; simp
    · have hbc : (b == c) = false := by simp; exact fun e => h e.symm
      simp only [hbc, Bool.false_eq_true, if_false, h]
      rw [← ih]
      by_cases hm : Go.Lib.index r [b] = -1
      · simp [hm]
      · have h0 : 0 ≤ Go.Lib.index r [b] := by
          have := Go.Lib.index_ge r [b]; omega
        have h1 : (Go.Lib.index r [b] == -1) = false := by simp [hm]
        rw [h1]
        simp only [Bool.false_eq_true, if_false]
        rw [if_pos (by omega), if_pos h0]
        have e1 : (Go.Lib.index r [b] + 1).toNat = (Go.Lib.index r [b]).toNat + 1 := by omega
        rw [e1, Nat.add_right_comm]
        simp

theorem digit_bytes (u : Nat) : ∀ c ∈ Go.Lib.decDigits u, 48 ≤ c.toNat ∧ c.toNat ≤ 57 := by
  induction u using Nat.strongRecOn with
  | _ u ih =>
    intro c hc
    rw [Go.Lib.decDigits] at hc
    split at hc
    · simp at hc; subst hc; simp; omega
    · rcases List.mem_append.1 hc with hc | hc
      · exact ih (u / 10) (by omega) c hc
      · simp at hc; subst hc; simp; omega
theorem num_bytes (n : Int) (h : 0 ≤ n) : ∀ c ∈ Go.Lib.itoa n, 48 ≤ c.toNat ∧ c.toNat ≤ 57 := by
  unfold Go.Lib.itoa
  rw [if_neg (by omega)]
  exact digit_bytes _

/-- The checksum of a list of bytes. -/
def sumStep (h : Int) (c : UInt8) : Int := (41 * h + c.toNat + 1) % 999979
def sumL (s : Bytes) : Int := s.foldl sumStep 7
theorem sumL_snoc (s : Bytes) (c : UInt8) : sumL (s ++ [c]) = (41 * sumL s + c.toNat + 1) % 999979 := by simp [sumL, sumStep]
theorem sum_range (s : Bytes) : ∀ h : Int, 0 ≤ h → h < 999979 → 0 ≤ s.foldl sumStep h ∧ s.foldl sumStep h < 999979 := by
  induction s with
  | nil => intro h h0 h1; exact ⟨h0, h1⟩
  | cons c r ih => intro h h0 h1; rw [List.foldl_cons]; exact ih _ (by unfold sumStep; omega) (by unfold sumStep; omega)
theorem sumL_range (s : Bytes) : 0 ≤ sumL s ∧ sumL s < 999979 := sum_range s 7 (by omega) (by omega)

def textB (k : Nat) (c r : Bytes) : Bytes := Go.Lib.itoa k ++ 32 :: (c ++ 64 :: r)
def lineB (k : Nat) (c r : Bytes) : Bytes := textB k c r ++ 35 :: Go.Lib.itoa (sumL (textB k c r))
abbrev bl (s : ByteArray) : Bytes := s.data.toList
def recOk (c r : ByteArray) : Bool := inB c.size 1 160 && plainB c && !hasB c 64 && plainB r && decide ((r.size : Int) ≤ 200)
theorem bl_len (s : ByteArray) : (bl s).length = s.size := Array.length_toList
structure RecR where
  c : ByteArray
  r : ByteArray
def RecR.ok (e : RecR) : Bool := recOk e.c e.r
def RecR.line (e : RecR) (k : Nat) : Bytes := lineB k (bl e.c) (bl e.r)
def RecR.row (e : RecR) : List Value := [.string e.c, .string e.r]
/-- What a line tells, if it is the line of a record. -/
def fieldsB (line : Bytes) : RecR :=
  let q := cutB 64 (cutB 32 (cutB 35 line).1).2.1
  ⟨⟨q.1.toArray⟩, ⟨q.2.1.toArray⟩⟩
def recAt (line : Bytes) (k : Nat) : Option RecR := if (fieldsB line).ok && decide ((fieldsB line).line k = line) then some (fieldsB line) else none

theorem plain_bytes {s : ByteArray} (h : plainB s = true) : ∀ c ∈ bl s, 32 ≤ c.toNat ∧ c.toNat ≤ 126 ∧ c.toNat ≠ 35 := by
  intro c hc
  have := List.all_eq_true.1 h c hc
  simp only [plainC, Bool.and_eq_true, decide_eq_true_eq, Bool.not_eq_true', beq_eq_false_iff_ne] at this
  omega
theorem has_bytes {s : ByteArray} {b : UInt8} (h : hasB s b = false) : ∀ c ∈ bl s, c ≠ b := by
  intro c hc e
  subst e
  have : hasB s c = true := by rw [hasB, List.any_eq_true]; exact ⟨c, hc, by simp⟩
  rw [h] at this; cases this
theorem RecR.parts {e : RecR} (h : e.ok = true) : 1 ≤ e.c.size ∧ e.c.size ≤ 160 ∧ plainB e.c = true ∧ hasB e.c 64 = false ∧ plainB e.r = true ∧ e.r.size ≤ 200 := by
  simp only [RecR.ok, recOk, inB, Bool.and_eq_true, decide_eq_true_eq, Bool.not_eq_true'] at h
  obtain ⟨⟨⟨⟨h1, h2⟩, h3⟩, h4⟩, h5⟩ := h
  exact ⟨by omega, by omega, h2, h3, h4, by omega⟩
theorem text_free {e : RecR} (h : e.ok = true) (k : Nat) : ∀ c ∈ textB k (bl e.c) (bl e.r), c ≠ 35 ∧ c ≠ 10 := by
  obtain ⟨_, _, h1, _, h2, _⟩ := RecR.parts h
  have key : ∀ c : UInt8, 32 ≤ c.toNat → c.toNat ≠ 35 → c ≠ 35 ∧ c ≠ 10 := fun c a b => ⟨fun e => by subst e; exact b (by decide), fun e => by subst e; revert a; decide⟩
  intro c hc
  unfold textB at hc
  rcases List.mem_append.1 hc with hc | hc
  · have := num_bytes k (by omega) c hc; exact key c (by omega) (by omega)
  · rcases List.mem_cons.1 hc with rfl | hc
    · exact key 32 (by decide) (by decide)
    · rcases List.mem_append.1 hc with hc | hc
      · have := plain_bytes h1 c hc; exact key c (by omega) (by omega)
      · rcases List.mem_cons.1 hc with rfl | hc
        · exact key 64 (by decide) (by decide)
        · have := plain_bytes h2 c hc; exact key c (by omega) (by omega)
theorem line_free {e : RecR} (h : e.ok = true) (k : Nat) : ∀ c ∈ e.line k, c ≠ 10 := by
  intro c hc
  unfold RecR.line lineB at hc
  rcases List.mem_append.1 hc with hc | hc
  · exact (text_free h k c hc).2
  · rcases List.mem_cons.1 hc with rfl | hc
    · decide
    · have := num_bytes _ (sumL_range _).1 c hc
      intro e; subst e; revert this; decide
theorem bytes_mk (l : Bytes) : bl ⟨l.toArray⟩ = l := rfl
theorem mk_bytes (s : ByteArray) : (⟨(bl s).toArray⟩ : ByteArray) = s := rfl
theorem cut_text {e : RecR} (h : e.ok = true) (k : Nat) : (cutB 35 (e.line k)).1 = textB k (bl e.c) (bl e.r) := by
  unfold RecR.line lineB
  rw [cutB_app _ _ _ (fun c hc => (text_free h k c hc).1)]
theorem cut_num (k : Nat) (x : Bytes) : cutB 32 (Go.Lib.itoa k ++ 32 :: x) = (Go.Lib.itoa k, x, true) :=
  cutB_app _ _ _ fun c hc => by have := num_bytes k (by omega) c hc; intro e; subst e; revert this; decide
theorem cut_at {e : RecR} (h : e.ok = true) : cutB 64 (bl e.c ++ 64 :: bl e.r) = (bl e.c, bl e.r, true) :=
  cutB_app _ _ _ (has_bytes (RecR.parts h).2.2.2.1)
theorem fields_line {e : RecR} (h : e.ok = true) (k : Nat) : fieldsB (e.line k) = e := by
  unfold fieldsB
  rw [cut_text h k]
  unfold textB
  rw [cut_num, cut_at h]
theorem recAt_line {e : RecR} (h : e.ok = true) (k : Nat) : recAt (e.line k) k = some e := by
  simp [recAt, fields_line h k, h]
theorem recAt_some {line : Bytes} {k : Nat} {e : RecR} (h : recAt line k = some e) : e.ok = true ∧ e.line k = line := by
  unfold recAt at h
  split at h
  · rename_i hc
    simp only [Bool.and_eq_true, decide_eq_true_eq] at hc
    injection h with h
    subst h
    exact hc
  · cases h
theorem recAt_of {line : Bytes} {k : Nat} {e : RecR} (h : e.ok = true) (hl : e.line k = line) : recAt line k = some e := by subst hl; exact recAt_line h k
theorem recAt_none {line : Bytes} {k : Nat} (h : recAt line k = none) (e : RecR) (h1 : e.ok = true) : e.line k ≠ line := fun hl => by rw [recAt_of h1 hl] at h; cases h
theorem line_len {e : RecR} (h : e.ok = true) (k : Nat) (hk : k < 60) : (e.line k).length ≤ 371 := by
  obtain ⟨_, h1, _, _, _, h2⟩ := RecR.parts h
  have e1 := bl_len e.c
  have e2 := bl_len e.r
  have n1 : (Go.Lib.itoa k).length ≤ 2 := by
    unfold Go.Lib.itoa; rw [if_neg (by omega), Go.Lib.decDigits_length]
    exact nDigits_le 1 _ (by have e : (10 : Nat) ^ (1 + 1) = 100 := rfl; rw [e]; omega)
  have n2 : ∀ n : Int, 0 ≤ n → n < 999979 → (Go.Lib.itoa n).length ≤ 6 := fun n a b => by
    unfold Go.Lib.itoa; rw [if_neg (by omega), Go.Lib.decDigits_length]
    exact nDigits_le 5 _ (by have e : (10 : Nat) ^ (5 + 1) = 1000000 := rfl; rw [e]; omega)
  have n3 := n2 _ (sumL_range (textB k (bl e.c) (bl e.r))).1 (sumL_range (textB k (bl e.c) (bl e.r))).2
  unfold RecR.line lineB
  simp only [List.length_append, List.length_cons]
  generalize (Go.Lib.itoa (sumL (textB k (bl e.c) (bl e.r)))).length = q at n3
  simp only [textB, List.length_append, List.length_cons]
  omega

/-! ### Logs -/
/-- The record at the head of a text, with the number of its bytes. -/
def headB (s : Bytes) (k : Nat) : Option (RecR × Nat) := if (cutB 10 s).2.2 && decide (k < 60) then (recAt (cutB 10 s).1 k).map fun e => (e, (cutB 10 s).1.length + 1) else none
def opens : Nat → Bytes → Nat → List (RecR × Nat)
  | 0, _, _ => []
  | f + 1, s, k => match headB s k with
    | none => []
    | some (e, n) => (e, n) :: opens f (s.drop n) (k + 1)
def endOf (L : List (RecR × Nat)) : Nat := (L.map (·.2)).sum
def endAt (L : List (RecR × Nat)) (k : Nat) : Nat := endOf (L.take k)
def opensF (s : Bytes) : List (RecR × Nat) := opens 61 s 0
theorem drop_line {b : UInt8} {x r t : Bytes} (h : t = x ++ b :: r) : t.drop (x.length + 1) = r := by
  subst h
  induction x with
  | nil => rfl
  | cons c x ih => simp
theorem headB_some {s : Bytes} {k : Nat} {e : RecR} {n : Nat} (h : headB s k = some (e, n)) : k < 60 ∧ e.ok = true ∧ n = (e.line k).length + 1 ∧ s = e.line k ++ 10 :: s.drop n := by
  unfold headB at h
  split at h
  · rename_i hc
    simp only [Bool.and_eq_true, decide_eq_true_eq] at hc
    obtain ⟨hf, hk⟩ := hc
    cases hr : recAt (cutB 10 s).1 k with
    | none => rw [hr] at h; cases h
    | some e' =>
      rw [hr] at h
      simp only [Option.map_some, Option.some.injEq, Prod.mk.injEq] at h
      obtain ⟨rfl, rfl⟩ := h
      obtain ⟨h1, h2⟩ := recAt_some hr
      have h3 := cutB_found 10 s hf
      refine ⟨hk, h1, by rw [h2], ?_⟩
      have h4 : s.drop ((cutB 10 s).1.length + 1) = (cutB 10 s).2.1 := drop_line h3
      rw [h4, h2]; exact h3
  · cases h
theorem headB_line {e : RecR} {k : Nat} (h : e.ok = true) (hk : k < 60) (r : Bytes) : headB (e.line k ++ 10 :: r) k = some (e, (e.line k).length + 1) := by
  unfold headB
  rw [cutB_app _ _ _ (line_free h k)]
  simp [hk, recAt_line h k]
theorem headB_full {s : Bytes} {k : Nat} (h : 60 ≤ k) : headB s k = none := by
  unfold headB
  rw [show decide (k < 60) = false by simp; omega]; simp
theorem headB_lt {s : Bytes} {k : Nat} {e : RecR} {n : Nat} (h : headB s k = some (e, n)) : 0 < n ∧ n ≤ s.length ∧ n ≤ 372 := by
  obtain ⟨hk, ho, hn, hs⟩ := headB_some h
  have := line_len ho k hk
  have h2 := congrArg List.length hs
  simp at h2
  omega
end Go.Proofs.YtfnbbmhhilffeaaDoor
