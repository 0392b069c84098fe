/- Lists that lie in a block of their own, which a call may write: marking, and what stays. No program in sight. -/
import Derived.Test.YtjlaidjogladaaaDoorAp
namespace Go.Proofs.YtjlaidjogladaaaDoor
open Go.RowKit

def OwnF {α : Type} (B : Nat) (e : TypeId) (s : Nat) (cells : α → List Value) (w : World) (A : Option Addr) (l : List α) : Prop :=
  l = [] ∨ ∃ g cs, A = some ⟨g, 0, none⟩ ∧ B ≤ g ∧ Blk w g e cs ∧ l.length * s ≤ cs.size ∧ Filled cs s cells l l.length
/-- The block that is written when the list is marked. -/
def rowOf {α : Type} (A : Option Addr) : List α → Option Nat
  | [] => none
  | _ :: _ => A.map (·.block)
theorem rowOf_some {α : Type} {g : Nat} {l : List α} (h : 0 < l.length) : rowOf (some ⟨g, 0, none⟩) l = some g := by
  cases l with
  | nil => simp at h
  | cons x r => rfl
section
variable {α : Type} {B : Nat} {e : TypeId} {s : Nat} {cells : α → List Value} {w w' : World} {A : Option Addr} {c : Nat} {l : List α}
theorem Own.f (h : Own B e s cells w A c l) (hs : ∀ x, (cells x).length = s) : OwnF B e s cells w A l := by
  rcases h.2 with ⟨h1, h2⟩ | ⟨g, cap, cur, hv, hb, hh, hn, hm, hc, ht⟩
  · exact .inl (List.eq_nil_of_length_eq_zero h2)
  · injection hv with hA
    subst hA
    refine .inr ⟨g, cur, rfl, hb, hh, by rw [hc]; exact Nat.mul_le_mul_right _ hn, fun i hi _ j u hu => ?_⟩
    have h1 := flat_get hs l i hi j u hu
    rw [← ht, List.getElem?_take] at h1
    split at h1
    · simpa using h1
    · cases h1
theorem OwnF.split (h : OwnF B e s cells w A l) : l = [] ∨ (0 < l.length ∧ ∃ g cs, A = some ⟨g, 0, none⟩ ∧ B ≤ g ∧ Blk w g e cs ∧ l.length * s ≤ cs.size ∧ Filled cs s cells l l.length) := by
  cases l with
  | nil => exact .inl rfl
  | cons x r =>
    rcases h with h | h
    · cases h
    · exact .inr ⟨by simp, h⟩
theorem OwnF.sl (h : OwnF B e s cells w A l) : Sl w s cells A l := by
  rcases h with h | ⟨g, cs, rfl, hb, hB, hs, hF⟩
  · exact .inl h
  · exact Sl.of_blk hB hF
theorem OwnF.kept {row : Option Nat} (h : OwnF B e s cells w A l) (hg : w.grownBy w' row) (hr : ∀ k, row = some k → k < B) : OwnF B e s cells w' A l := by
  rcases h with h | ⟨g, cs, rfl, hb, hB, hs, hF⟩
  · exact .inl h
  · exact .inr ⟨g, cs, rfl, hb, hB.grown hg (fun e => by have := hr g e.symm; omega), hs, hF⟩
theorem grown_plus (w : World) (g : Ext) (row : Option Nat) : w.grownBy (plus w g) row := ⟨rfl, rfl, rfl, by simp [plus], fun k hk _ => block_plus w g k hk⟩
theorem OwnF.grew (h : OwnF B e s cells w A l) (hg : ∃ g, w' = plus w g) : OwnF B e s cells w' A l := by
  obtain ⟨g, rfl⟩ := hg
  exact h.kept (grown_plus w g none) (by simp)
theorem OwnF.less {B' : Nat} (h : OwnF B e s cells w A l) (hB : B' ≤ B) : OwnF B' e s cells w A l := by
  rcases h with h | ⟨g, cs, hA, hb, r⟩
  · exact .inl h
  · exact .inr ⟨g, cs, hA, by omega, r⟩
theorem OwnF.base {x : Ext} (h : OwnF B e s cells (plus w x) A l) (hB : w.heap.size ≤ B) (hs : w'.heap.size = w.heap.size) : OwnF B e s cells (plus w' x) A l := by
  rcases h with h | ⟨g, cs, rfl, hb, hK, r⟩
  · exact .inl h
  · exact .inr ⟨g, cs, rfl, hb, hK.base (by omega) hs, r⟩
theorem OwnF.row (h : OwnF B e s cells w A l) : ∀ k, rowOf A l = some k → B ≤ k ∧ k < w.heap.size := by
  intro k hk
  rcases h with rfl | ⟨g, cs, rfl, hb, hB, _⟩
  · simp [rowOf] at hk
  · cases l with
    | nil => simp [rowOf] at hk
    | cons x r => simp [rowOf] at hk; subst hk; exact ⟨hb, hB.lt⟩
end
theorem grown_refl (w : World) (row : Option Nat) : w.grownBy w row := ⟨rfl, rfl, rfl, Nat.le_refl _, fun _ _ _ => rfl⟩
theorem grown_set {w w' : World} {g i : Nat} {v : Value} (h : w.grownBy w' (some g)) : w.grownBy (w'.setCell ⟨g, i, none⟩ v) (some g) :=
  ⟨h.os, h.tape, h.output, by simpa [World.setCell] using h.size, fun k hk hne => by
    rw [← h.block k hk hne]
    exact Below.heap_setCell w' _ v k (by intro e; apply hne; rw [e])⟩
theorem grown_then {w w' w'' : World} {row : Option Nat} (h : w.grownBy w' row) (hg : ∃ g, w'' = plus w' g) : w.grownBy w'' row := by
  obtain ⟨g, rfl⟩ := hg
  exact h.trans (grown_plus w' g row)
theorem grown_of_grew {w w' : World} (hg : ∃ g, w' = plus w g) (row : Option Nat) : w.grownBy w' row := by
  obtain ⟨g, rfl⟩ := hg
  exact grown_plus w g row
theorem blk_kept {w w' : World} {g : Nat} {t : TypeId} {cs : Array Value} {A : Option Addr} {n c : Nat} (h : Blk w g t cs) (hg : w.grownBy w' (Value.slice A n c).ownBlock) (hne : ∀ a, A = some a → a.block ≠ g) : Blk w' g t cs :=
  h.grown hg fun e => by
    obtain ⟨ad, h1, h2⟩ := own_some e.symm
    exact hne ad h1 h2
theorem Own.ne {α : Type} {B : Nat} {e : TypeId} {s : Nat} {cells : α → List Value} {w : World} {A : Option Addr} {c : Nat} {l : List α} (h : Own B e s cells w A c l) : ∀ a, A = some a → B ≤ a.block ∧ a.block < w.heap.size := by
  intro a ha
  rcases h.far with ⟨rfl, _⟩ | ⟨g, rfl, h1, h2⟩
  · cases ha
  · injection ha with ha; subst ha; exact ⟨h1, h2⟩
theorem Own.setFar {α : Type} {B : Nat} {e : TypeId} {s : Nat} {cells : α → List Value} {w : World} {A : Option Addr} {c : Nat} {l : List α} {g i : Nat} {v : Value} (h : Own B e s cells w A c l) (hne : ∀ a, A = some a → a.block ≠ g) : Own B e s cells (w.setCell ⟨g, i, none⟩ v) A c l := by
  refine World.ownsRow.kept h (row := some g) (grown_set (grown_refl w _)) ?_
  cases A with
  | none => exact .inl rfl
  | some a => exact .inr (by have := hne a rfl; simp [Value.ownBlock]; exact this)
theorem blk_new {w : World} {b : Nat} {t : TypeId} {cs : Array Value} (hb : b = w.heap.size) : Blk (w.alloc (.cells cs t)) b t cs := by
  subst hb; exact Blk.new w t cs
theorem blk_grew {w w' : World} {g : Nat} {t : TypeId} {cs : Array Value} (h : Blk w g t cs) (hg : ∃ g, w' = plus w g) : Blk w' g t cs := by
  obtain ⟨x, rfl⟩ := hg; exact h.plus x
theorem grew_own {w0 w w' : World} {A : Option Addr} {n c : Nat} (h : ∃ g, w = plus w0 g) (hg : w.grownBy w' (Value.slice A n c).ownBlock) (hr : ∀ a, A = some a → w0.heap.size ≤ a.block) : ∃ g, w' = plus w0 g :=
  grew_grown h hg fun k hk => by
    obtain ⟨ad, h1, h2⟩ := own_some hk
    rw [← h2]; exact hr ad h1
end Go.Proofs.YtjlaidjogladaaaDoor
