/- Base lemmas on worlds, with no program in sight: a world that has only grown ('plus'), and small facts. -/
import Derived.WalkKit
import Derived.WalkSpells
import Derived.WalkLawsBesides
import Derived.Deep.QuietTactic
import Derived.BigQuiet
namespace Go.Proofs.Ytbglldjdagnojaa
open Go.RowKit

/-- What a call adds to a world: new blocks; n: how far the tape has been drawn. -/
structure Ext where
  objs : Array Obj
  n : Nat
instance : Inhabited Ext := ⟨⟨#[], 0⟩⟩
def Ext.add (g h : Ext) : Ext := ⟨g.objs ++ h.objs, h.n⟩
def plus (w : World) (g : Ext) : World := { w with heap := w.heap ++ g.objs, drawn := g.n }

section
variable (w : World) (g h : Ext) (a : Addr)
@[go_sem] theorem plus_plus : plus (plus w g) h = plus w (g.add h) := by
  simp [plus, Ext.add, Array.append_assoc]
@[go_sem] theorem size_plus : (plus w g).heap.size = w.heap.size + g.objs.size := by simp [plus]
@[go_sem] theorem tape_plus : (plus w g).tape = w.tape := rfl
theorem block_plus (k : Nat) (hk : k < w.heap.size) : (plus w g).heap[k]? = w.heap[k]? := by
  simp [plus, Array.getElem?_append, hk]
@[go_sem] theorem cell?_plus {b i : Nat} (hk : b < w.heap.size) : (plus w g).cell? ⟨b, i, none⟩ = w.cell? ⟨b, i, none⟩ :=
  World.cell?_of_block (w := w) (block_plus w g b hk)
@[go_sem] theorem frozen?_plus {b i : Nat} (hk : b < w.heap.size) : (plus w g).frozen? ⟨b, i, none⟩ = w.frozen? ⟨b, i, none⟩ :=
  World.frozen?_of_block (w := w) (block_plus w g b hk)
theorem below_plus : Below w.heap.size w (plus w g) := ⟨rfl, rfl, rfl, by simp [plus], fun k hk => block_plus w g k hk⟩
@[go_sem] theorem drew_plus : (plus w g).drew = plus w ⟨g.objs, g.n + 1⟩ := rfl
theorem drew_is_plus : w.drew = plus w ⟨#[], w.drawn + 1⟩ := by unfold plus World.drew; rw [Array.append_empty]
theorem alloc_is_plus (o : Obj) : w.alloc o = plus w ⟨#[o], w.drawn⟩ := by unfold plus World.alloc; rw [Array.push_eq_append]
theorem plus_refl : w = plus w ⟨#[], w.drawn⟩ := by simp [plus]
end

theorem plus_of_below {w w' : World} (h : Below w.heap.size w w') : ∃ g, w' = plus w g := by
  refine ⟨⟨w'.heap.extract w.heap.size w'.heap.size, w'.drawn⟩, ?_⟩
  have hh : w'.heap = w.heap ++ w'.heap.extract w.heap.size w'.heap.size := by
    apply Array.ext_getElem?
    intro i
    by_cases hi : i < w.heap.size
    · rw [h.block i hi, Array.getElem?_append_left hi]
    · rw [Array.getElem?_append_right (by omega), Array.getElem?_extract]
      by_cases h2 : i < w'.heap.size
      · rw [if_pos (by omega)]; congr 1; omega
      · rw [if_neg (by omega), Array.getElem?_eq_none (by omega)]
  cases w' with
  | mk heap tape drawn os output =>
    have h1 := h.os
    have h2 := h.tape
    have h3 := h.output
    simp only at h1 h2 h3 hh
    subst h1 h2 h3
    simp only [plus]
    rw [← hh]

theorem grew_refl (w : World) : ∃ g, w = plus w g := ⟨_, plus_refl w⟩
theorem grew_plus {w W : World} {x : Ext} (h : ∃ g, W = plus w g) : ∃ g, plus W x = plus w g := by
  obtain ⟨g, rfl⟩ := h; exact ⟨_, plus_plus _ _ _⟩
theorem grew_alloc {w W : World} {o : Obj} (h : ∃ g, W = plus w g) : ∃ g, W.alloc o = plus w g := by
  rw [alloc_is_plus]; exact grew_plus h
theorem grew_drew {w W : World} (h : ∃ g, W = plus w g) : ∃ g, W.drew = plus w g := by
  rw [drew_is_plus]; exact grew_plus h
theorem below_of_grew {w W : World} (h : ∃ g, W = plus w g) : Below w.heap.size w W := by
  obtain ⟨g, rfl⟩ := h; exact below_plus _ _
theorem grew_set {w W : World} {p : Addr} {v : Value} (h : ∃ g, W = plus w g) (hp : w.heap.size ≤ p.block) : ∃ g, W.setCell p v = plus w g :=
  plus_of_below ((below_of_grew h).setCell hp v)

/-- ONE WALK OF THE LEXICAL ORDER serves every order, for a region that reads and whose callees only add to the world. -/
theorem wp_region_calm {P : Program} {id : Nat} {Q : Exit → Act → World → Prop} {a : Act} {w : World} {l : List Oper} (hm : P.follows .mixedOrders = true) (hB : Region.lexB .any l.toArray = true)
    (h : wpQuiet P l.toArray (fun w' => ∃ g : Ext, w' = plus w g) (fun a' => ∀ w', (∃ g : Ext, w' = plus w g) → Q .normal a' w') l a) : (Code.region id l.toArray true).wp P Q a w :=
  wp_region_quiet (C := fun w' => ∃ g : Ext, w' = plus w g) hm hB ⟨⟨#[], w.drawn + 1⟩, by simp [plus]⟩ (by simpa using h)

theorem calm_of {P : Program} {f : FuncId} {args : Array Value} {w : World} {g : Ext} {v : Value}
    (h : Calls P f args (plus w g) fun e w' => e = .returned v ∧ ∃ h : Ext, w' = plus (plus w g) h) : Calls P f args (plus w g) fun e w'' => e = .returned v ∧ ∃ h : Ext, w'' = plus w h :=
  h.mono fun _ _ ⟨he, m, hm⟩ => ⟨he, g.add m, by rw [hm, plus_plus]⟩
theorem calm_same {P : Program} {f : FuncId} {args : Array Value} {w : World} {g : Ext} {v : Value}
    (h : Calls P f args (plus w g) fun e w' => e = .returned v ∧ plus w g = w') : Calls P f args (plus w g) fun e w'' => e = .returned v ∧ ∃ h : Ext, w'' = plus w h :=
  h.mono fun _ _ ⟨he, hm⟩ => ⟨he, g, hm.symm⟩
theorem add_assoc_ext (g a h : Ext) : (g.add a).add h = g.add (a.add h) := by simp [Ext.add, Array.append_assoc]
theorem calm_add {P : Program} {f : FuncId} {args : Array Value} {w : World} {g a : Ext} {v : Value}
    (h : Calls P f args (plus w (g.add a)) fun e w' => e = .returned v ∧ ∃ h : Ext, w' = plus (plus w (g.add a)) h) : Calls P f args (plus w (g.add a)) fun e w'' => e = .returned v ∧ ∃ h : Ext, w'' = plus w (g.add h) :=
  h.mono fun _ _ ⟨he, m, hm⟩ => ⟨he, a.add m, by rw [hm, plus_plus, add_assoc_ext]⟩
theorem calm_add_same {P : Program} {f : FuncId} {args : Array Value} {w : World} {g a : Ext} {v : Value}
    (h : Calls P f args (plus w (g.add a)) fun e w' => e = .returned v ∧ plus w (g.add a) = w') : Calls P f args (plus w (g.add a)) fun e w'' => e = .returned v ∧ ∃ h : Ext, w'' = plus w (g.add h) :=
  h.mono fun _ _ ⟨he, hm⟩ => ⟨he, a, hm.symm⟩
theorem hid {p : Prop} (h : p) : Hid p := h
theorem below_grew {w W : World} (h : Below w.heap.size w W) : ∃ g, W = plus w g := plus_of_below h
theorem ret_bool {a b : Bool} (h : a = b) : Ending.returned (.bool a) = .returned (.bool b) := by rw [h]
theorem ret_int {k : IntKind} {a b : Int} (h : a = b) : Ending.returned (.int k a) = .returned (.int k b) := by rw [h]
end Go.Proofs.Ytbglldjdagnojaa
