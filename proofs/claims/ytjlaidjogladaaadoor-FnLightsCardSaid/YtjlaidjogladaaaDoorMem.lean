/- Arrays that a call has made: known whole, stored into, handed on. No program in sight. -/
import Derived.Test.YtjlaidjogladaaaDoorBase
import Derived.Laws.MakeOwn
import Derived.Laws.OwnMore
import Derived.Laws.Rows
namespace Go.Proofs.YtjlaidjogladaaaDoor
open Go.RowKit

/-- Block g is just the cells cs of element type t, none frozen. -/
def Blk (w : World) (g : Nat) (t : TypeId) (cs : Array Value) : Prop := w.heap[g]? = some (.cells cs t (0, 0))
section
variable {w w' : World} {g : Nat} {t : TypeId} {cs : Array Value}
theorem Blk.lt (h : Blk w g t cs) : g < w.heap.size := by
  rcases Nat.lt_or_ge g w.heap.size with hlt | hge
  · exact hlt
  · unfold Blk at h; rw [Array.getElem?_eq_none hge] at h; cases h
theorem Blk.cell (h : Blk w g t cs) (i : Nat) : w.cell? ⟨g, i, none⟩ = cs[i]? := cell_of_row w g i cs t (0, 0) h
theorem Blk.some_ (h : Blk w g t cs) (i : Nat) (hi : i < cs.size) : ∃ u, w.cell? ⟨g, i, none⟩ = some u := ⟨_, (h.cell i).trans (Array.getElem?_eq_getElem hi)⟩
theorem Blk.frozen (h : Blk w g t cs) (i : Nat) : w.frozen? ⟨g, i, none⟩ = false := by
  unfold Blk at h
  simp [World.frozen?, h]
theorem Blk.new (w : World) (t : TypeId) (cs : Array Value) : Blk (w.alloc (.cells cs t)) w.heap.size t cs := heap_alloc_new w _
theorem Blk.alloc (h : Blk w g t cs) (o : Obj) : Blk (w.alloc o) g t cs := (Below.heap_alloc w o g h.lt).trans h
theorem Blk.set_ (h : Blk w g t cs) (i : Nat) (u : Value) : Blk (w.setCell ⟨g, i, none⟩ u) g t (cs.setIfInBounds i u) := by
  unfold Blk at h ⊢
  simp [World.setCell, Array.getElem?_modify, h]
theorem Blk.far (h : Blk w g t cs) {p : Addr} (hp : g ≠ p.block) (u : Value) : Blk (w.setCell p u) g t cs := (Below.heap_setCell w p u g hp).trans h
theorem Blk.below {B : Nat} (h : Blk w g t cs) (hb : Below B w w') (hg : g < B) : Blk w' g t cs := (hb.block g hg).trans h
theorem Blk.plus (h : Blk w g t cs) (x : Ext) : Blk (plus w x) g t cs := h.below (below_plus _ _) h.lt
/-- A block behind the old ones stays, whatever becomes of a block among the old ones. -/
theorem Blk.base {W W' : World} {x : Ext} {k : Nat} (h : Blk (Go.Proofs.YtjlaidjogladaaaDoor.plus W x) k t cs) (hk : W.heap.size ≤ k) (hs : W'.heap.size = W.heap.size) : Blk (Go.Proofs.YtjlaidjogladaaaDoor.plus W' x) k t cs := by
  unfold Blk Go.Proofs.YtjlaidjogladaaaDoor.plus at *
  simp only [Array.getElem?_append] at *
  rw [if_neg (by omega)] at *
  rw [hs]; exact h
theorem Blk.grown {row : Option Nat} (h : Blk w g t cs) (hb : w.grownBy w' row) (hg : some g ≠ row) : Blk w' g t cs := (hb.block g h.lt hg).trans h
end

theorem Blk.some1 {w : World} {g : Nat} {t : TypeId} {cs : Array Value} (h : Blk w g t cs) (o : Nat) (ho : o + 1 ≤ cs.size) : (∃ u, w.cell? ⟨g, o, none⟩ = some u) ∧ w.frozen? ⟨g, o, none⟩ = false :=
  ⟨h.some_ _ (by omega), h.frozen _⟩
theorem Blk.some2 {w : World} {g : Nat} {t : TypeId} {cs : Array Value} (h : Blk w g t cs) (o : Nat) (ho : o + 2 ≤ cs.size) : (∃ u, w.cell? ⟨g, o, none⟩ = some u) ∧ (∃ u, w.cell? ⟨g, o + 1, none⟩ = some u) ∧ w.frozen? ⟨g, o, none⟩ = false ∧ w.frozen? ⟨g, o + 1, none⟩ = false :=
  ⟨h.some_ _ (by omega), h.some_ _ (by omega), h.frozen _, h.frozen _⟩
theorem Blk.some3 {w : World} {g : Nat} {t : TypeId} {cs : Array Value} (h : Blk w g t cs) (o : Nat) (ho : o + 3 ≤ cs.size) : (∃ u, w.cell? ⟨g, o, none⟩ = some u) ∧ (∃ u, w.cell? ⟨g, o + 1, none⟩ = some u) ∧ (∃ u, w.cell? ⟨g, o + 2, none⟩ = some u) ∧ w.frozen? ⟨g, o, none⟩ = false ∧ w.frozen? ⟨g, o + 1, none⟩ = false ∧ w.frozen? ⟨g, o + 2, none⟩ = false :=
  ⟨h.some_ _ (by omega), h.some_ _ (by omega), h.some_ _ (by omega), h.frozen _, h.frozen _, h.frozen _⟩
theorem Blk.some6 {w : World} {g : Nat} {t : TypeId} {cs : Array Value} (h : Blk w g t cs) (o : Nat) (ho : o + 6 ≤ cs.size) : (∃ u, w.cell? ⟨g, o, none⟩ = some u) ∧ (∃ u, w.cell? ⟨g, o + 1, none⟩ = some u) ∧ (∃ u, w.cell? ⟨g, o + 2, none⟩ = some u) ∧ (∃ u, w.cell? ⟨g, o + 3, none⟩ = some u) ∧ (∃ u, w.cell? ⟨g, o + 4, none⟩ = some u) ∧ (∃ u, w.cell? ⟨g, o + 5, none⟩ = some u) ∧ w.frozen? ⟨g, o, none⟩ = false ∧ w.frozen? ⟨g, o + 1, none⟩ = false ∧ w.frozen? ⟨g, o + 2, none⟩ = false ∧ w.frozen? ⟨g, o + 3, none⟩ = false ∧ w.frozen? ⟨g, o + 4, none⟩ = false ∧ w.frozen? ⟨g, o + 5, none⟩ = false :=
  ⟨h.some_ _ (by omega), h.some_ _ (by omega), h.some_ _ (by omega), h.some_ _ (by omega), h.some_ _ (by omega), h.some_ _ (by omega), h.frozen _, h.frozen _, h.frozen _, h.frozen _, h.frozen _, h.frozen _⟩
theorem Blk.some7 {w : World} {g : Nat} {t : TypeId} {cs : Array Value} (h : Blk w g t cs) (o : Nat) (ho : o + 7 ≤ cs.size) : (∃ u, w.cell? ⟨g, o, none⟩ = some u) ∧ (∃ u, w.cell? ⟨g, o + 1, none⟩ = some u) ∧ (∃ u, w.cell? ⟨g, o + 2, none⟩ = some u) ∧ (∃ u, w.cell? ⟨g, o + 3, none⟩ = some u) ∧ (∃ u, w.cell? ⟨g, o + 4, none⟩ = some u) ∧ (∃ u, w.cell? ⟨g, o + 5, none⟩ = some u) ∧ (∃ u, w.cell? ⟨g, o + 6, none⟩ = some u) ∧ w.frozen? ⟨g, o, none⟩ = false ∧ w.frozen? ⟨g, o + 1, none⟩ = false ∧ w.frozen? ⟨g, o + 2, none⟩ = false ∧ w.frozen? ⟨g, o + 3, none⟩ = false ∧ w.frozen? ⟨g, o + 4, none⟩ = false ∧ w.frozen? ⟨g, o + 5, none⟩ = false ∧ w.frozen? ⟨g, o + 6, none⟩ = false :=
  ⟨h.some_ _ (by omega), h.some_ _ (by omega), h.some_ _ (by omega), h.some_ _ (by omega), h.some_ _ (by omega), h.some_ _ (by omega), h.some_ _ (by omega), h.frozen _, h.frozen _, h.frozen _, h.frozen _, h.frozen _, h.frozen _, h.frozen _⟩
/-- The array with the values us laid from o on. -/
def put (cs : Array Value) (o : Nat) : List Value → Array Value
  | [] => cs
  | u :: r => put (cs.setIfInBounds o u) (o + 1) r
theorem size_put (us : List Value) : ∀ (cs : Array Value) (o : Nat), (put cs o us).size = cs.size := by
  induction us with
  | nil => intro cs o; rfl
  | cons u r ih => intro cs o; rw [put, ih]; simp
theorem put_below (us : List Value) : ∀ (cs : Array Value) (o i : Nat), i < o → (put cs o us)[i]? = cs[i]? := by
  induction us with
  | nil => intro cs o i _; rfl
  | cons u r ih => intro cs o i hi; rw [put, ih _ _ _ (by omega), Array.getElem?_setIfInBounds]; rw [if_neg (by omega)]
theorem put_beyond (us : List Value) : ∀ (cs : Array Value) (o i : Nat), o + us.length ≤ i → (put cs o us)[i]? = cs[i]? := by
  induction us with
  | nil => intro cs o i _; rfl
  | cons u r ih => intro cs o i hi; simp only [List.length_cons] at hi; rw [put, ih _ _ _ (by omega), Array.getElem?_setIfInBounds]; rw [if_neg (by omega)]
theorem put_at (us : List Value) : ∀ (cs : Array Value) (o j : Nat) (u : Value), us[j]? = some u → o + j < cs.size → (put cs o us)[o + j]? = some u := by
  induction us with
  | nil => intro cs o j u h; simp at h
  | cons v r ih =>
    intro cs o j u h hs
    cases j with
    | zero =>
      simp only [List.getElem?_cons_zero, Option.some.injEq] at h
      subst h
      rw [put, put_below _ _ _ _ (by omega), Array.getElem?_setIfInBounds]; rw [if_pos (by omega), if_pos (by omega)]
    | succ j =>
      rw [put, show o + (j + 1) = o + 1 + j by omega]
      exact ih _ _ _ _ (by simpa using h) (by simp; omega)

/-! Stores of one element's cells, one behind the other. -/
section
variable {w : World} {g : Nat} {t : TypeId} {cs : Array Value}
theorem Blk.put1 (h : Blk w g t cs) (o : Nat) (u0 : Value) : Blk (w.setCell ⟨g, o, none⟩ u0) g t (put cs o [u0]) := by
  have := (h.set_ (o) u0)
  simpa only [put, Nat.add_assoc, Nat.reduceAdd] using this
theorem Blk.put2 (h : Blk w g t cs) (o : Nat) (u0 u1 : Value) : Blk ((w.setCell ⟨g, o, none⟩ u0).setCell ⟨g, o + 1, none⟩ u1) g t (put cs o [u0, u1]) := by
  have := ((h.set_ (o) u0).set_ (o + 1) u1)
  simpa only [put, Nat.add_assoc, Nat.reduceAdd] using this
theorem Blk.put3 (h : Blk w g t cs) (o : Nat) (u0 u1 u2 : Value) : Blk (((w.setCell ⟨g, o, none⟩ u0).setCell ⟨g, o + 1, none⟩ u1).setCell ⟨g, o + 2, none⟩ u2) g t (put cs o [u0, u1, u2]) := by
  have := (((h.set_ (o) u0).set_ (o + 1) u1).set_ (o + 2) u2)
  simpa only [put, Nat.add_assoc, Nat.reduceAdd] using this
theorem Blk.put4 (h : Blk w g t cs) (o : Nat) (u0 u1 u2 u3 : Value) : Blk ((((w.setCell ⟨g, o, none⟩ u0).setCell ⟨g, o + 1, none⟩ u1).setCell ⟨g, o + 2, none⟩ u2).setCell ⟨g, o + 3, none⟩ u3) g t (put cs o [u0, u1, u2, u3]) := by
  have := ((((h.set_ (o) u0).set_ (o + 1) u1).set_ (o + 2) u2).set_ (o + 3) u3)
  simpa only [put, Nat.add_assoc, Nat.reduceAdd] using this
theorem Blk.put5 (h : Blk w g t cs) (o : Nat) (u0 u1 u2 u3 u4 : Value) : Blk (((((w.setCell ⟨g, o, none⟩ u0).setCell ⟨g, o + 1, none⟩ u1).setCell ⟨g, o + 2, none⟩ u2).setCell ⟨g, o + 3, none⟩ u3).setCell ⟨g, o + 4, none⟩ u4) g t (put cs o [u0, u1, u2, u3, u4]) := by
  have := (((((h.set_ (o) u0).set_ (o + 1) u1).set_ (o + 2) u2).set_ (o + 3) u3).set_ (o + 4) u4)
  simpa only [put, Nat.add_assoc, Nat.reduceAdd] using this
theorem Blk.put6 (h : Blk w g t cs) (o : Nat) (u0 u1 u2 u3 u4 u5 : Value) : Blk ((((((w.setCell ⟨g, o, none⟩ u0).setCell ⟨g, o + 1, none⟩ u1).setCell ⟨g, o + 2, none⟩ u2).setCell ⟨g, o + 3, none⟩ u3).setCell ⟨g, o + 4, none⟩ u4).setCell ⟨g, o + 5, none⟩ u5) g t (put cs o [u0, u1, u2, u3, u4, u5]) := by
  have := ((((((h.set_ (o) u0).set_ (o + 1) u1).set_ (o + 2) u2).set_ (o + 3) u3).set_ (o + 4) u4).set_ (o + 5) u5)
  simpa only [put, Nat.add_assoc, Nat.reduceAdd] using this
theorem Blk.put7 (h : Blk w g t cs) (o : Nat) (u0 u1 u2 u3 u4 u5 u6 : Value) : Blk (((((((w.setCell ⟨g, o, none⟩ u0).setCell ⟨g, o + 1, none⟩ u1).setCell ⟨g, o + 2, none⟩ u2).setCell ⟨g, o + 3, none⟩ u3).setCell ⟨g, o + 4, none⟩ u4).setCell ⟨g, o + 5, none⟩ u5).setCell ⟨g, o + 6, none⟩ u6) g t (put cs o [u0, u1, u2, u3, u4, u5, u6]) := by
  have := (((((((h.set_ (o) u0).set_ (o + 1) u1).set_ (o + 2) u2).set_ (o + 3) u3).set_ (o + 4) u4).set_ (o + 5) u5).set_ (o + 6) u6)
  simpa only [put, Nat.add_assoc, Nat.reduceAdd] using this
end

/-- The first k elements of l lie in the array, each in s cells. -/
def Filled {α : Type} (cs : Array Value) (s : Nat) (cells : α → List Value) (l : List α) (k : Nat) : Prop :=
  ∀ i (hi : i < l.length), i < k → ∀ j u, (cells l[i])[j]? = some u → cs[i * s + j]? = some u
theorem Filled.zero {α : Type} (cs : Array Value) (s : Nat) (cells : α → List Value) (l : List α) : Filled cs s cells l 0 := fun _ _ h => absurd h (by omega)
theorem Filled.step {α : Type} {cs : Array Value} {s : Nat} {cells : α → List Value} {l : List α} {k : Nat} (h : Filled cs s cells l k) (hk : k < l.length) (hs : ∀ x ∈ l, (cells x).length = s) (hz : l.length * s ≤ cs.size) :
    Filled (put cs (k * s) (cells l[k])) s cells l (k + 1) := by
  intro i hi hik j u hu
  have hj : j < s := by
    have := (List.getElem?_eq_some_iff.1 hu).1
    rwa [hs _ (List.getElem_mem hi)] at this
  rcases Nat.lt_or_ge i k with h1 | h1
  · rw [put_below]
    · exact h i hi h1 j u hu
    · have : (i + 1) * s ≤ k * s := Nat.mul_le_mul_right _ h1
      rw [Nat.add_mul] at this; omega
  · obtain rfl : i = k := by omega
    refine put_at _ _ _ _ _ hu ?_
    have : (i + 1) * s ≤ l.length * s := Nat.mul_le_mul_right _ hk
    rw [Nat.add_mul] at this; omega
/-- A filled array of the call's own reads as the list. -/
theorem Sl.of_blk {α : Type} {w : World} {g : Nat} {t : TypeId} {cs : Array Value} {s : Nat} {cells : α → List Value} {l : List α} (hb : Blk w g t cs) (hf : Filled cs s cells l l.length) : Sl w s cells (some ⟨g, 0, none⟩) l :=
  .inr ⟨g, 0, rfl, hb.lt, fun i hi j u hu => by rw [Nat.zero_add]; exact (hb.cell _).trans (hf i hi hi j u hu)⟩

theorem run_make_rowN {P : Program} (t e : TypeId) (i : TypeInfo) (z : Value) (ht : P.underlying t = some (.slice e)) (hi : P.info? e = some i) (hz : i.zero = some z)
    (n : Nat) (hbytes : i.bytes * n ≤ 281474976710656) (w : World) :
    (Instr.makeSlice t (.int .i64 (n : Int)) (.int .i64 (n : Int))).run P w = .ok (.slice (some ⟨w.heap.size, 0, none⟩) n n) (w.alloc (.cells (madeCells z.cells (n * i.size)) e)) ∨ i.bytes = 0 := by
  rcases Nat.eq_zero_or_pos i.bytes with h0 | h0
  · exact .inr h0
  · left
    have hn : n ≤ i.bytes * n := Nat.le_mul_of_pos_left _ h0
    have hb : (i.bytes : Int) * (n : Int) ≤ 281474976710656 := by
      have h : ((i.bytes * n : Nat) : Int) ≤ 281474976710656 := by omega
      rwa [Int.natCast_mul] at h
    have hr := run_make (P := P) w t e i z ht hi hz .i64 .i64 n n (by omega) (by omega) hb (by omega)
    simp only [Int.toNat_natCast] at hr
    exact hr
end Go.Proofs.YtjlaidjogladaaaDoor
