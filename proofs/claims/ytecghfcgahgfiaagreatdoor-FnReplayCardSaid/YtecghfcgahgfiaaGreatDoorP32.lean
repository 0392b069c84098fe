import Derived.Test.YtecghfcgahgfiaaGreatDoorP30
import Derived.Test.YtecghfcgahgfiaaGreatDoorP22
/- The pieces of a text, in a block of their own; what a script answers. -/
namespace Go.Proofs.YtecghfcgahgfiaaGreatDoor
open Go.RowKit

/-- What RunScript answers. -/
def scrF (d : DayC) (l : LogR) (t : ByteArray) : List ByteArray × Bool :=
  if conOk d l && decide (t.size ≤ 4000) && decide ((splitV t 10).length ≤ 30) then (repTo d l (splitV t 10) (splitV t 10).length, true) else ([], false)
/-- A list in its own block stays if another block is written. -/
theorem OwnF.keptNe {α : Type} {B : Nat} {e : TypeId} {s : Nat} {cells : α → List Value} {w w' : World} {A : Option Addr} {l : List α} {row : Option Nat} (h : OwnF B e s cells w A l) (hg : w.grownBy w' row) (hne : ∀ k, row = some k → rowOf A l ≠ some k) : OwnF B e s cells w' A l := by
  rcases h with h | ⟨g, cur, hA, hB, hK, r⟩
  · exact .inl h
  · cases l with
    | nil => exact .inl rfl
    | cons x t =>
      refine .inr ⟨g, cur, hA, hB, hK.grown hg (fun e1 => ?_), r⟩
      exact hne _ e1.symm (by simp [rowOf, hA])
theorem scrF_len (d : DayC) (l : LogR) (t : ByteArray) : (scrF d l t).1.length ≤ 30 := by
  unfold scrF
  split
  · rename_i h
    simp only [Bool.and_eq_true, decide_eq_true_eq] at h
    rw [repTo_len]
    exact h.2
  · simp
theorem i_SplitF (s : ByteArray) (b : UInt8) (ws : List ByteArray) (hws : splitV s b = ws) (w : World) (hs : s.size ≤ 4194304) (hE : Env w) :
    Calls Tryz.prog 45 #[.string s, .string ⟨#[b]⟩] w fun e w' => (∃ A c, e = .returned (.slice A ws.length c) ∧ OwnF w.heap.size 9 1 strRow w' A ws) ∧ ∃ g, w' = plus w g := by
  subst hws
  obtain ⟨m, hm⟩ := hE.mx
  have h := Tryz.strings_Split s ⟨#[b]⟩ m w (by omega) hm (Nat.le_refl 1)
  rw [split_same] at h
  have hl : Go.Lib.countB s ⟨#[b]⟩ + 1 = (splitV s b).length := by
    have := Go.Lib.splitB_all ⟨#[b]⟩ (Nat.le_refl 1) 0 _ s rfl
    rw [split_same] at this
    exact this.symm
  refine h.mono fun e w' ⟨he, hw⟩ => ?_
  subst hw
  refine ⟨⟨some ⟨w.heap.size, 0, none⟩, (splitV s b).length, by rw [he, hl], ?_⟩, by (repeat (first | with_reducible exact grew_refl _ | with_reducible assumption | with_reducible refine grew_split ?_ | with_reducible refine grew_mk ?_ | with_reducible refine grew_plus ?_ | with_reducible refine grew_alloc ?_ | with_reducible refine grew_drew ?_ | (with_reducible refine grew_set ?_ (by first | exact Nat.le_refl _ | omega | (simp [go_sem]; done) | (simp [go_sem]; omega)))))⟩
  refine .inr ⟨w.heap.size, _, rfl, Nat.le_refl _, Blk.new w _ _, by simp, ?_⟩
  intro i hi _ j u hu
  have hj := (List.getElem?_eq_some_iff.1 hu).1
  simp [strRow] at hj
  subst hj
  simp [strRow] at hu
  simp [hi, hu]
end Go.Proofs.YtecghfcgahgfiaaGreatDoor
