/- Areas in an order: inserting from behind, as the reference does it, and as the library's stable sort does it with a list as short as this. No program in sight. -/
import Derived.Test.YteogidghoohgaaaDoorA5
namespace Go.Proofs.YteogidghoohgaaaDoor
open Go.RowKit

/-- How far down a row goes, from k on. -/
def slot (gt : AreaR → AreaR → Bool) (L : List AreaR) (x : AreaR) : Nat → Nat
  | 0 => 0
  | k + 1 => if h : k < L.length then (if gt L[k] x then slot gt L x k else k + 1) else k + 1
def insP (gt : AreaR → AreaR → Bool) (L : List AreaR) (x : AreaR) : List AreaR := L.take (slot gt L x L.length) ++ x :: L.drop (slot gt L x L.length)
def insAll (gt : AreaR → AreaR → Bool) (l : List AreaR) : List AreaR := l.foldl (insP gt) []
theorem slot_le (gt : AreaR → AreaR → Bool) (L : List AreaR) (x : AreaR) : ∀ k, slot gt L x k ≤ k := by
  intro k
  induction k with
  | zero => simp [slot]
  | succ k ih => simp only [slot]; split <;> (try split) <;> omega
theorem slot_down {gt : AreaR → AreaR → Bool} {L : List AreaR} {x : AreaR} {k : Nat} (h : k < L.length) (hg : gt L[k] x = true) : slot gt L x (k + 1) = slot gt L x k := by simp [slot, h, hg]
theorem slot_stop {gt : AreaR → AreaR → Bool} {L : List AreaR} {x : AreaR} {k : Nat} (h : k < L.length) (hg : gt L[k] x = false) : slot gt L x (k + 1) = k + 1 := by simp [slot, h, hg]
theorem insP_len (gt : AreaR → AreaR → Bool) (L : List AreaR) (x : AreaR) : (insP gt L x).length = L.length + 1 := by
  have := slot_le gt L x L.length
  simp [insP]; omega
theorem insAll_snoc (gt : AreaR → AreaR → Bool) (l : List AreaR) (x : AreaR) : insAll gt (l ++ [x]) = insP gt (insAll gt l) x := by simp [insAll]
theorem snoc_ind {α : Type} {p : List α → Prop} (h0 : p []) (h1 : ∀ l x, p l → p (l ++ [x])) : ∀ l, p l := by
  have h : ∀ r : List α, p r.reverse := by
    intro r
    induction r with
    | nil => exact h0
    | cons x r ih => rw [List.reverse_cons]; exact h1 _ _ ih
  intro l
  have := h l.reverse
  rwa [List.reverse_reverse] at this
theorem insAll_len (gt : AreaR → AreaR → Bool) : ∀ l : List AreaR, (insAll gt l).length = l.length := by
  refine snoc_ind rfl fun l x ih => ?_
  rw [insAll_snoc, insP_len, ih]; simp
theorem insP_perm (gt : AreaR → AreaR → Bool) (L : List AreaR) (x : AreaR) : (insP gt L x).Perm (L ++ [x]) := by
  have h1 : (insP gt L x).Perm (x :: L) := by
    have : (x :: (L.take (slot gt L x L.length) ++ L.drop (slot gt L x L.length))).Perm (x :: L) := by rw [List.take_append_drop]
    exact List.perm_middle.trans this
  exact h1.trans (List.perm_append_singleton x L).symm
theorem insAll_perm (gt : AreaR → AreaR → Bool) : ∀ l : List AreaR, (insAll gt l).Perm l := by
  refine snoc_ind .nil fun l x ih => ?_
  rw [insAll_snoc]
  exact (insP_perm gt _ x).trans (ih.append_right [x])
theorem insAll_mem {gt : AreaR → AreaR → Bool} {l : List AreaR} {x : AreaR} : x ∈ insAll gt l ↔ x ∈ l := (insAll_perm gt l).mem_iff
theorem slot_never {gt : AreaR → AreaR → Bool} (h : ∀ a b, gt a b = false) (L : List AreaR) (x : AreaR) : ∀ k, k ≤ L.length → slot gt L x k = k
  | 0, _ => rfl
  | k + 1, hk => slot_stop hk (h _ _)
theorem insAll_never {gt : AreaR → AreaR → Bool} (h : ∀ a b, gt a b = false) : ∀ l : List AreaR, insAll gt l = l := by
  refine snoc_ind rfl fun l x ih => ?_
  rw [insAll_snoc, ih, insP, slot_never h l x _ (Nat.le_refl _)]
  simp
/-- The array while a row goes down: it stands at j. -/
def inSt (P : List AreaR) (x : AreaR) (rest : List AreaR) (j : Nat) : List AreaR := P.take j ++ x :: (P.drop j ++ rest)
theorem inSt_len {P : List AreaR} {x : AreaR} {rest : List AreaR} {j : Nat} (h : j ≤ P.length) : (inSt P x rest j).length = P.length + 1 + rest.length := by
  simp [inSt]; omega
theorem inSt_at {P : List AreaR} {x : AreaR} {rest : List AreaR} {j : Nat} (h : j ≤ P.length) (hl : j < (inSt P x rest j).length) : (inSt P x rest j)[j] = x := by
  have h2 : (inSt P x rest j)[j]? = some x := by
    unfold inSt
    rw [List.getElem?_append_right (by simp; omega)]
    simp [Nat.min_eq_left h]
  exact (List.getElem?_eq_some_iff.1 h2).2
theorem inSt_below {P : List AreaR} {x : AreaR} {rest : List AreaR} {j : Nat} (h : j < P.length) (hl : j < (inSt P x rest (j + 1)).length) : (inSt P x rest (j + 1))[j] = P[j] := by
  have h2 : (inSt P x rest (j + 1))[j]? = some P[j] := by
    unfold inSt
    rw [List.getElem?_append_left (by simp; omega), List.getElem?_take, if_pos (by omega), List.getElem?_eq_getElem h]
  exact (List.getElem?_eq_some_iff.1 h2).2
theorem swap_two (A C : List AreaR) (x y : AreaR) (n : Nat) (hn : n = A.length) : ((A ++ y :: x :: C).set (n + 1) y).set n x = A ++ x :: y :: C := by
  subst hn
  simp [List.set_append]
theorem swap_two' (A C : List AreaR) (x y : AreaR) (n : Nat) (hn : n = A.length) : ((A ++ y :: x :: C).set n x).set (n + 1) y = A ++ x :: y :: C := by
  subst hn
  simp [List.set_append]
theorem inSt_two {P : List AreaR} {x : AreaR} {rest : List AreaR} {j : Nat} (h : j < P.length) : inSt P x rest (j + 1) = P.take j ++ P[j] :: x :: (P.drop (j + 1) ++ rest) ∧ inSt P x rest j = P.take j ++ x :: P[j] :: (P.drop (j + 1) ++ rest) := by
  constructor
  · rw [inSt, List.take_succ_eq_append_getElem h, List.append_assoc]; rfl
  · rw [inSt, List.drop_eq_getElem_cons h]; rfl
theorem inSt_swap {P : List AreaR} {x : AreaR} {rest : List AreaR} {j : Nat} (h : j < P.length) : ((inSt P x rest (j + 1)).set (j + 1) P[j]).set j x = inSt P x rest j := by
  rw [(inSt_two h).1, (inSt_two h).2]
  exact swap_two _ _ _ _ _ (by simp; omega)
theorem inSt_swap' {P : List AreaR} {x : AreaR} {rest : List AreaR} {j : Nat} (h : j < P.length) : ((inSt P x rest (j + 1)).set j x).set (j + 1) P[j] = inSt P x rest j := by
  rw [(inSt_two h).1, (inSt_two h).2]
  exact swap_two' _ _ _ _ _ (by simp; omega)
/-- The array after so many rounds of the sort. -/
def sortSt (gt : AreaR → AreaR → Bool) (l : List AreaR) (i : Nat) : List AreaR := insAll gt (l.take i) ++ l.drop i
theorem sortSt_start (gt : AreaR → AreaR → Bool) (l : List AreaR) : sortSt gt l 1 = l := by
  cases l with
  | nil => simp [sortSt, insAll]
  | cons x r => simp [sortSt, insAll, insP, slot]
theorem sortSt_len (gt : AreaR → AreaR → Bool) (l : List AreaR) (i : Nat) : (sortSt gt l i).length = l.length := by
  simp only [sortSt, List.length_append, insAll_len, List.length_take, List.length_drop]; omega
theorem sortSt_in {gt : AreaR → AreaR → Bool} {l : List AreaR} {i : Nat} (h : i < l.length) : sortSt gt l i = inSt (insAll gt (l.take i)) l[i] (l.drop (i + 1)) i := by
  have hl : (insAll gt (l.take i)).length = i := by rw [insAll_len]; simp; omega
  simp only [sortSt, inSt]
  have e1 : (insAll gt (l.take i)).take i = insAll gt (l.take i) := List.take_of_length_le (by omega)
  have e2 : (insAll gt (l.take i)).drop i = [] := List.drop_eq_nil_of_le (by omega)
  rw [e1, e2, List.nil_append, List.drop_eq_getElem_cons h]
theorem sortSt_next {gt : AreaR → AreaR → Bool} {l : List AreaR} {i j : Nat} (h : i < l.length) (hs : slot gt (insAll gt (l.take i)) l[i] i = j) : inSt (insAll gt (l.take i)) l[i] (l.drop (i + 1)) j = sortSt gt l (i + 1) := by
  have hl : (insAll gt (l.take i)).length = i := by rw [insAll_len]; simp; omega
  have e : (insAll gt (l.take i ++ [l[i]])) = insP gt (insAll gt (l.take i)) l[i] := insAll_snoc _ _ _
  simp only [sortSt, List.take_succ_eq_append_getElem h]
  rw [e, insP, hl, hs]
  simp [inSt]
theorem sortSt_end (gt : AreaR → AreaR → Bool) (l : List AreaR) : sortSt gt l l.length = insAll gt l := by simp [sortSt]
theorem sortSt_short {gt : AreaR → AreaR → Bool} {l : List AreaR} (h : l.length ≤ 1) : l = insAll gt l := by
  match l, h with
  | [], _ => rfl
  | [x], _ => simp [insAll, insP, slot]
/-- The areas that are chosen, among the first n. -/
def chTo (ch : AreaR → Bool) (l : List AreaR) (n : Nat) : List AreaR := (l.take n).filter ch
theorem chTo_yes {ch : AreaR → Bool} {l : List AreaR} {n : Nat} (h : n < l.length) (hc : ch l[n] = true) : chTo ch l (n + 1) = chTo ch l n ++ [l[n]] := by
  rw [chTo, List.take_succ_eq_append_getElem h, List.filter_append]
  simp [chTo, hc]
theorem chTo_no {ch : AreaR → Bool} {l : List AreaR} {n : Nat} (h : n < l.length) (hc : ch l[n] = false) : chTo ch l (n + 1) = chTo ch l n := by
  rw [chTo, List.take_succ_eq_append_getElem h, List.filter_append]
  simp [chTo, hc]
theorem chTo_len (ch : AreaR → Bool) (l : List AreaR) (n : Nat) : (chTo ch l n).length ≤ n := by
  have h1 := List.length_filter_le ch (l.take n)
  have h2 := List.length_take_le n l
  unfold chTo; omega
theorem chTo_all (ch : AreaR → Bool) (l : List AreaR) : chTo ch l l.length = l.filter ch := by simp [chTo]
theorem chTo_sub {ch : AreaR → Bool} {l : List AreaR} {n : Nat} {r : AreaR} (h : r ∈ chTo ch l n) : r ∈ l := List.mem_of_mem_take (List.mem_filter.1 h).1
/-- The areas that are chosen, in their order; their names. -/
def ordF (ch : AreaR → Bool) (gt : AreaR → AreaR → Bool) (l : List AreaR) : List AreaR := insAll gt (l.filter ch)
def namesF (ch : AreaR → Bool) (gt : AreaR → AreaR → Bool) (l : List AreaR) : List ByteArray × Bool := if areasB l then ((ordF ch gt l).map AreaR.nm, true) else ([], false)
theorem namesF_bad {ch : AreaR → Bool} {gt : AreaR → AreaR → Bool} {l : List AreaR} (h : areasB l = false) : namesF ch gt l = ([], false) := by simp [namesF, h]
theorem namesF_good {ch : AreaR → Bool} {gt : AreaR → AreaR → Bool} {l : List AreaR} (h : areasB l = true) : namesF ch gt l = ((ordF ch gt l).map AreaR.nm, true) := by simp [namesF, h]
theorem ordF_len (ch : AreaR → Bool) (gt : AreaR → AreaR → Bool) (l : List AreaR) : (ordF ch gt l).length ≤ l.length := by
  rw [ordF, insAll_len]; exact List.length_filter_le _ _
theorem ordF_sub {ch : AreaR → Bool} {gt : AreaR → AreaR → Bool} {l : List AreaR} {r : AreaR} (h : r ∈ ordF ch gt l) : r ∈ l ∧ ch r = true := List.mem_filter.1 (insAll_mem.1 h)
theorem namesF_len {ch : AreaR → Bool} {gt : AreaR → AreaR → Bool} {l : List AreaR} : (namesF ch gt l).1.length ≤ 10 := by
  unfold namesF
  split
  · rename_i h
    have h1 := ordF_len ch gt l
    have h2 := areasB_len h
    simp only [List.length_map]; omega
  · simp
def shareR (r : AreaR) : Int := 1000 * r.cov / r.cells
def doneR (r : AreaR) : Bool := decide (r.cov = r.cells) && decide (r.spread ≤ 50)
def gtNo (_ _ : AreaR) : Bool := false
def gtSh (a b : AreaR) : Bool := decide (a.least - a.spread > b.least - b.spread)
def gtWo (a b : AreaR) : Bool := decide (shareR a > shareR b) || (decide (shareR a = shareR b) && decide (a.spread < b.spread))
def sounded (r : AreaR) : Bool := decide (0 < r.cov)
def undone (r : AreaR) : Bool := !doneR r
theorem ordF_never (ch : AreaR → Bool) (l : List AreaR) : ordF ch gtNo l = l.filter ch := insAll_never (fun _ _ => rfl) _
end Go.Proofs.YteogidghoohgaaaDoor
