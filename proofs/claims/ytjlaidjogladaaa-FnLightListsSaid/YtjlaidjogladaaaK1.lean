/- Worlds of which a stretch of blocks alone has been written, and in which blocks keep their sizes. No program in sight. -/
import Derived.Test.YtjlaidjogladaaaMk
namespace Go.Proofs.Ytjlaidjogladaaa
open Go.RowKit

/-- From w to w' only the blocks from lo on and before hi have been written. -/
structure KeptF (lo hi : Nat) (w w' : World) : Prop where
  os : w'.os = w.os
  tape : w'.tape = w.tape
  output : w'.output = w.output
  size : w.heap.size ≤ w'.heap.size
  block : ∀ k, k < w.heap.size → (k < lo ∨ hi ≤ k) → w'.heap[k]? = w.heap[k]?
theorem KeptF.refl (lo hi : Nat) (w : World) : KeptF lo hi w w := ⟨rfl, rfl, rfl, Nat.le_refl _, fun _ _ _ => rfl⟩
theorem KeptF.grown {lo hi : Nat} {a w w' : World} {row : Option Nat} (h : KeptF lo hi a w) (hg : w.grownBy w' row) (hr : ∀ k, row = some k → lo ≤ k ∧ k < hi) : KeptF lo hi a w' :=
  ⟨hg.os.trans h.os, hg.tape.trans h.tape, hg.output.trans h.output, Nat.le_trans h.size hg.size, fun k hk hh =>
    (hg.block k (by have := h.size; omega) (fun e => by have := hr k e.symm; omega)).trans (h.block k hk hh)⟩
theorem KeptF.grew {lo hi : Nat} {a w w' : World} (h : KeptF lo hi a w) (hg : ∃ g, w' = plus w g) : KeptF lo hi a w' := h.grown (grown_of_grew hg none) (by simp)
theorem Blk.keptF {lo hi g : Nat} {t : TypeId} {cs : Array Value} {w w' : World} (h : Blk w g t cs) (hk : KeptF lo hi w w') (hg : g < lo ∨ hi ≤ g) : Blk w' g t cs := (hk.block g h.lt hg).trans h
theorem OwnF.keptF {α : Type} {B lo hi s : Nat} {e : TypeId} {cells : α → List Value} {w w' : World} {A : Option Addr} {l : List α} (h : OwnF B e s cells w A l) (hk : KeptF lo hi w w') (hB : hi ≤ B) : OwnF B e s cells w' A l := by
  rcases h with h | ⟨g, cs, rfl, hb, hB2, hs, hF⟩
  · exact .inl h
  · exact .inr ⟨g, cs, rfl, hb, hB2.keptF hk (.inr (by omega)), hs, hF⟩
theorem grew_keptF {lo hi : Nat} {w0 w w' : World} (h : ∃ g, w = plus w0 g) (hk : KeptF lo hi w w') (h0 : w0.heap.size ≤ lo) : ∃ g, w' = plus w0 g :=
  plus_of_below ((below_of_grew h).trans ⟨hk.os, hk.tape, hk.output, hk.size, fun k hk' => hk.block k (by have := (below_of_grew h).size; omega) (.inl (by omega))⟩)
/-- Blocks keep their types and sizes. -/
def Sized (w w' : World) : Prop := ∀ g t cs, Blk w g t cs → ∃ cs', Blk w' g t cs' ∧ cs'.size = cs.size
theorem Sized.refl (w : World) : Sized w w := fun _ _ cs h => ⟨cs, h, rfl⟩
theorem Sized.trans {a b c : World} (h : Sized a b) (k : Sized b c) : Sized a c := fun g t cs hb => by
  obtain ⟨cs1, h1, e1⟩ := h g t cs hb
  obtain ⟨cs2, h2, e2⟩ := k g t cs1 h1
  exact ⟨cs2, h2, e2.trans e1⟩
theorem Sized.of {w w' : World} {g : Nat} {t : TypeId} {cs cs' : Array Value} (hg : w.grownBy w' (some g)) (h : Blk w g t cs) (h' : Blk w' g t cs') (hs : cs'.size = cs.size) : Sized w w' := fun g2 t2 cs2 h2 => by
  by_cases e : g2 = g
  · subst e
    have := h.symm.trans h2
    simp only [Option.some.injEq, Obj.cells.injEq] at this
    obtain ⟨rfl, rfl, _⟩ := this
    exact ⟨cs', h', hs⟩
  · exact ⟨cs2, h2.grown hg (by simpa using e), rfl⟩
theorem Sized.grew {a w w' : World} (h : Sized a w) (hg : ∃ g, w' = plus w g) : Sized a w' := h.trans fun _ _ cs hb => ⟨cs, blk_grew hb hg, rfl⟩
/-- A list whose block has room for it: what marking asks. -/
def Room (lo hi : Nat) (e : TypeId) (s : Nat) (w : World) (A : Option Addr) (n : Nat) : Prop :=
  n = 0 ∨ ∃ g cs, A = some ⟨g, 0, none⟩ ∧ lo ≤ g ∧ g < hi ∧ Blk w g e cs ∧ n * s ≤ cs.size
theorem OwnF.room {α : Type} {B s : Nat} {e : TypeId} {cells : α → List Value} {w : World} {A : Option Addr} {l : List α} (h : OwnF B e s cells w A l) : Room B w.heap.size e s w A l.length := by
  rcases h with rfl | ⟨g, cs, rfl, hb, hB, hs, _⟩
  · exact .inl rfl
  · exact .inr ⟨g, cs, rfl, hb, hB.lt, hB, hs⟩
theorem Room.sized {lo hi s n : Nat} {e : TypeId} {w w' : World} {A : Option Addr} (h : Room lo hi e s w A n) (hs : Sized w w') : Room lo hi e s w' A n := by
  rcases h with h | ⟨g, cs, rfl, h1, h2, hB, hz⟩
  · exact .inl h
  · obtain ⟨cs', hB', e'⟩ := hs g e cs hB
    exact .inr ⟨g, cs', rfl, h1, h2, hB', by omega⟩
theorem Room.grew {lo hi s n : Nat} {e : TypeId} {w w' : World} {A : Option Addr} (h : Room lo hi e s w A n) (hg : ∃ g, w' = plus w g) : Room lo hi e s w' A n := h.sized ((Sized.refl w).grew hg)
theorem Room.split {lo hi s n : Nat} {e : TypeId} {w : World} {A : Option Addr} (h : Room lo hi e s w A n) : n = 0 ∨ (0 < n ∧ ∃ g cs, A = some ⟨g, 0, none⟩ ∧ lo ≤ g ∧ g < hi ∧ Blk w g e cs ∧ n * s ≤ cs.size) := by
  rcases Nat.eq_zero_or_pos n with h0 | h0
  · exact .inl h0
  · rcases h with h | h
    · omega
    · exact .inr ⟨h0, h⟩
end Go.Proofs.Ytjlaidjogladaaa
