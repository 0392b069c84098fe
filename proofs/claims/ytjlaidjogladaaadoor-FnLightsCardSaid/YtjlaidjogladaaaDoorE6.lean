/- The reference's draws of lists of minutes. -/
import Derived.Test.YtjlaidjogladaaaDoorE5
namespace Go.Proofs.YtjlaidjogladaaaDoor
open Go.RowKit

theorem CurU.lt {w0 w : World} {g : Nat} {A : Option Addr} {c : Nat} {bs : List Int} {M : Int} (h : CurU w0 w g A c bs M) : g < w.heap.size := by
  obtain ⟨a, h1, _⟩ := h; obtain ⟨s, hs⟩ := h1.blk; exact hs.lt
theorem CurU.far {w0 w : World} {g : Nat} {A : Option Addr} {c : Nat} {bs : List Int} {M : Int} (h : CurU w0 w g A c bs M) : w0.heap.size ≤ g := by
  obtain ⟨a, h1, _⟩ := h; exact h1.far
/-- A block other than the cursor's is written: the cursor stays. -/
theorem CurU.kept {w0 w w' : World} {g : Nat} {A : Option Addr} {c : Nat} {bs : List Int} {M : Int} {row : Option Nat} (h : CurU w0 w g A c bs M) (hg : w.grownBy w' row) (hne : ∀ k, row = some k → k ≠ g ∧ w0.heap.size ≤ k) : CurU w0 w' g A c bs M := by
  obtain ⟨a, h1, h2⟩ := h
  refine ⟨a, ⟨grew_grown h1.grew hg (fun k hk => (hne k hk).2), h1.far, ?_, h1.pos⟩, h2⟩
  obtain ⟨s, hs⟩ := h1.blk
  exact ⟨s, hs.grown hg (fun e => (hne g e.symm).1 rfl)⟩
theorem sl_lit (w : World) (l : List Int) (cs : Array Value) (hcs : cs = (l.map (Value.int .i64)).toArray) (t : TypeId) : Sl (w.alloc (.cells cs t)) 1 intRow (some ⟨w.heap.size, 0, none⟩) l := by
  refine Sl.of_blk (Blk.new w t cs) ?_
  subst hcs
  intro i hi _ j u hu
  have hj := (List.getElem?_eq_some_iff.1 hu).1
  simp [intRow] at hj
  subst hj
  simp [intRow] at hu
  simp [hi, hu]
theorem own_far {α : Type} {B : Nat} {e : TypeId} {s : Nat} {cells : α → List Value} {w : World} {A : Option Addr} {c : Nat} {l : List α} (h : Own B e s cells w A c l) {k n d : Nat} (hk : (Value.slice A n d).ownBlock = some k) : B ≤ k := by
  obtain ⟨ad, h1, h2⟩ := own_some hk
  rw [← h2]; exact (h.ne ad h1).1
theorem Own.keptG {α : Type} {B : Nat} {e : TypeId} {s : Nat} {cells : α → List Value} {w w' : World} {A : Option Addr} {c g : Nat} {l : List α} (h : Own B e s cells w A c l) (hg : w.grownBy w' (some g)) (hgB : g < B) : Own B e s cells w' A c l := by
  refine World.ownsRow.kept h hg ?_
  cases hv : (Value.slice A l.length c).ownBlock with
  | none => exact .inl rfl
  | some k => exact .inr (by have := own_far h hv; intro e; injection e with e; omega)
theorem grown_join {w wa wb : World} {g : Nat} {row : Option Nat} (h1 : w.grownBy wa (some g)) (h2 : wa.grownBy wb row) (hr : ∀ k, row = some k → w.heap.size ≤ k) : w.grownBy wb (some g) :=
  ⟨h2.os.trans h1.os, h2.tape.trans h1.tape, h2.output.trans h1.output, Nat.le_trans h1.size h2.size, fun k hk hne => (h2.block k (Nat.lt_of_lt_of_le hk h1.size) (fun e => by have := hr k e.symm; omega)).trans (h1.block k hk hne)⟩
/-- One of some numbers that are written out. -/
theorem s_amongL (w0 : World) (g : Nat) (A : Option Addr) (c : Nat) (bs : List Int) (M : Int) (l : List Int) (cs : Array Value) (hcs : cs = (l.map (Value.int .i64)).toArray) (d b : Nat) (w : World) (hb : b = w.heap.size) (hA : Code0 w0 A bs) (hC : CurU w0 w g A c bs M) (h1 : M ≤ 1099511627000) (hl : 0 < l.length) (h2 : l.length ≤ 1048576) :
    Calls Tryd.prog 35 #[.pointer (some ⟨g, 0, none⟩), .slice (some ⟨b, 0, none⟩) l.length d] (w.alloc (.cells cs 3)) fun e w' => (∃ x, e = .returned (.int .i64 x) ∧ x ∈ l) ∧ CurU w0 w' g A c bs (M + 2) ∧ w.grownBy w' (some g) := by
  subst hb
  refine (s_among w0 g A c bs M l _ d _ hA (hC.grew' (by (repeat (first | with_reducible exact grew_refl _ | with_reducible assumption | with_reducible refine grew_split ?_ | with_reducible refine grew_mk ?_ | with_reducible refine grew_plus ?_ | with_reducible refine grew_alloc ?_ | with_reducible refine grew_drew ?_ | (with_reducible refine grew_set ?_ (by first | exact Nat.le_refl _ | omega | (simp [go_sem]; done) | (simp [go_sem]; omega))))))) h1 (sl_lit w l cs hcs _) (fun a ha => by injection ha with ha; subst ha; have := hC.lt; simp; omega) hl h2).mono ?_
  rintro e w' ⟨hx, hc, hg⟩
  exact ⟨hx, hc, (grown_of_grew (by (repeat (first | with_reducible exact grew_refl _ | with_reducible assumption | with_reducible refine grew_split ?_ | with_reducible refine grew_mk ?_ | with_reducible refine grew_plus ?_ | with_reducible refine grew_alloc ?_ | with_reducible refine grew_drew ?_ | (with_reducible refine grew_set ?_ (by first | exact Nat.le_refl _ | omega | (simp [go_sem]; done) | (simp [go_sem]; omega)))))) _).trans hg⟩
def slLen6 : Value → Nat
  | .slice _ n _ => n
  | _ => 0
theorem own_set0 {w : World} {B g : Nat} {t : TypeId} {cs : Array Value} {l : List Int} {x : Int} (hg : B ≤ g) (hB : Blk w g t cs) (hs : l.length * 1 ≤ cs.size) (hF : Filled cs 1 intRow l l.length) (hl : 0 < l.length) : OwnF B t 1 intRow (w.setCell ⟨g, 0, none⟩ (.int .i64 x)) (some ⟨g, 0, none⟩) (l.set 0 x) := by
  refine .inr ⟨g, _, rfl, hg, hB.set_ 0 (.int .i64 x), by simpa using hs, ?_⟩
  intro i hi _ j u hu
  have hi' : i < l.length := by simpa using hi
  have hj := (List.getElem?_eq_some_iff.1 hu).1
  simp [intRow] at hj
  subst hj
  have h0 := hF 0 hl hl 0 _ rfl
  have hlt := (Array.getElem?_eq_some_iff.1 h0).1
  rw [Array.getElem?_setIfInBounds]
  by_cases e : i = 0
  · subst e
    rw [if_pos (by omega), if_pos (by omega)]
    simpa [intRow] using hu
  · rw [if_neg (by omega)]
    rw [List.getElem_set_ne (by omega)] at hu
    exact hF i hi' hi' 0 u hu
end Go.Proofs.YtjlaidjogladaaaDoor
