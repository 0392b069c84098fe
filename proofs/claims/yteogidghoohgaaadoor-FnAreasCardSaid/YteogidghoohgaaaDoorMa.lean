/- Merging two areas of a list: plain law. No program in sight. -/
import Derived.Test.YteogidghoohgaaaDoorA5
namespace Go.Proofs.YteogidghoohgaaaDoor
open Go.RowKit

/-- The row of two areas together. -/
def bothR (a b : AreaR) : AreaR :=
  ⟨a.nm, a.cells + b.cells, a.cov + b.cov, if b.cov = 0 then a.least else if a.cov = 0 then b.least else min a.least b.least, if b.cov = 0 then a.spread else if a.cov = 0 then b.spread else max a.spread b.spread, a.minutes + b.minutes⟩
/-- The reference's list, after so many rounds. -/
def mergeTo (l : List AreaR) (x : AreaR) (i k : Nat) : Nat → List AreaR
  | 0 => []
  | n + 1 => if h : n < l.length then (if n = i then mergeTo l x i k n ++ [x] else if n = k then mergeTo l x i k n else mergeTo l x i k n ++ [l[n]]) else mergeTo l x i k n
theorem mergeTo_len (l : List AreaR) (x : AreaR) (i k : Nat) : ∀ n, (mergeTo l x i k n).length ≤ n := by
  intro n
  induction n with
  | zero => simp [mergeTo]
  | succ n ih => simp only [mergeTo]; split <;> (try split) <;> (try split) <;> (try simp) <;> omega
theorem mergeTo_i {l : List AreaR} {x : AreaR} {i k : Nat} (hi : i < l.length) : mergeTo l x i k (i + 1) = mergeTo l x i k i ++ [x] := by simp [mergeTo, hi]
theorem mergeTo_k {l : List AreaR} {x : AreaR} {i k : Nat} (hk : k < l.length) (hne : k ≠ i) : mergeTo l x i k (k + 1) = mergeTo l x i k k := by simp [mergeTo, hk, hne]
theorem mergeTo_n {l : List AreaR} {x : AreaR} {i k n : Nat} (hn : n < l.length) (hi : n ≠ i) (hk : n ≠ k) : mergeTo l x i k (n + 1) = mergeTo l x i k n ++ [l[n]] := by simp [mergeTo, hn, hi, hk]
/-- The program's list: the row put at i, the row at k taken out. -/
def mergeP (l : List AreaR) (x : AreaR) (i k : Nat) : List AreaR := (l.set i x).take k ++ (l.set i x).drop (k + 1)
theorem mergeTo_take (l : List AreaR) (x : AreaR) (i k : Nat) (hne : i ≠ k) : ∀ n, n ≤ l.length → mergeTo l x i k n = if n ≤ k then (l.set i x).take n else (l.set i x).take k ++ ((l.set i x).take n).drop (k + 1) := by
  intro n
  induction n with
  | zero => intro _; simp [mergeTo]
  | succ n ih =>
    intro hn
    have hln : n < l.length := by omega
    have hls : n < (l.set i x).length := by simpa using hln
    have e := List.take_succ_eq_append_getElem hls
    have hg : (l.set i x)[n] = if n = i then x else l[n] := by
      rw [List.getElem_set]; by_cases h : i = n
      · simp [h]
      · have h2 : ¬ n = i := fun e => h e.symm
        simp [h, h2]
    by_cases h1 : n < k
    · have ih' := ih (by omega)
      rw [if_pos (by omega)] at ih'
      rw [if_pos (by omega), e, hg, ← ih']
      by_cases h2 : n = i
      · subst h2; rw [mergeTo_i hln, if_pos rfl]
      · rw [mergeTo_n hln h2 (by omega), if_neg h2]
    · by_cases h2 : n = k
      · subst h2
        have ih' := ih (by omega)
        rw [if_pos (by omega)] at ih'
        rw [mergeTo_k hln (by omega), if_neg (by omega), ih', List.drop_eq_nil_of_le (by simp; omega), List.append_nil]
      · have ih' := ih (by omega)
        rw [if_neg (by omega)] at ih'
        have hd : ((l.set i x).take n ++ [(l.set i x)[n]]).drop (k + 1) = ((l.set i x).take n).drop (k + 1) ++ [(l.set i x)[n]] := List.drop_append_of_le_length (by simp; omega)
        rw [if_neg (by omega), e, hd, hg, ← List.append_assoc, ← ih']
        by_cases h3 : n = i
        · subst h3; rw [mergeTo_i hln, if_pos rfl]
        · rw [mergeTo_n hln h3 h2, if_neg h3]
theorem mergeTo_eq (l : List AreaR) (x : AreaR) (i k : Nat) (hk : k < l.length) (hne : i ≠ k) : mergeTo l x i k l.length = mergeP l x i k := by
  have hs : (l.set i x).take l.length = l.set i x := List.take_of_length_le (by simp)
  rw [mergeTo_take l x i k hne l.length (Nat.le_refl _), if_neg (by omega), mergeP, hs]
end Go.Proofs.YteogidghoohgaaaDoor
