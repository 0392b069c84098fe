import Derived.WalkKit
import Derived.WalkSpells
import Derived.WalkLawsBesides
import Derived.Deep.QuietTactic
import Derived.BigQuiet
import Derived.Lib.ItoaNum
import Derived.Test.YtecghfcgahgfiaaGreatDoorRows
/- Base lemmas on worlds, with no program in sight: a world that has only grown ('plus'), and small facts. -/
namespace Go.Proofs.YtecghfcgahgfiaaGreatDoor
open Go.RowKit

/-- What a call adds to a world: new blocks; n: how far the tape has been drawn. -/
structure Ext where
  objs : Array Obj
  n : Nat
instance : Inhabited Ext := ⟨⟨#[], 0⟩⟩
def Ext.add (g h : Ext) : Ext := ⟨g.objs ++ h.objs, h.n⟩
def plus (w : World) (g : Ext) : World := { w with heap := w.heap ++ g.objs, drawn := g.n }

section
variable (w : World) (g h : Ext) (a : Addr)
@[go_sem] theorem plus_plus : plus (plus w g) h = plus w (g.add h) := by
  simp [plus, Ext.add, Array.append_assoc]
@[go_sem] theorem size_plus : (plus w g).heap.size = w.heap.size + g.objs.size := by simp [plus]
@[go_sem] theorem tape_plus : (plus w g).tape = w.tape := rfl
theorem block_plus (k : Nat) (hk : k < w.heap.size) : (plus w g).heap[k]? = w.heap[k]? := by
  simp [plus, Array.getElem?_append, hk]
@[go_sem] theorem cell?_plus {b i : Nat} (hk : b < w.heap.size) : (plus w g).cell? ⟨b, i, none⟩ = w.cell? ⟨b, i, none⟩ :=
  World.cell?_of_block (w := w) (block_plus w g b hk)
@[go_sem] theorem frozen?_plus {b i : Nat} (hk : b < w.heap.size) : (plus w g).frozen? ⟨b, i, none⟩ = w.frozen? ⟨b, i, none⟩ :=
  World.frozen?_of_block (w := w) (block_plus w g b hk)
theorem below_plus : Below w.heap.size w (plus w g) := ⟨rfl, rfl, rfl, by simp [plus], fun k hk => block_plus w g k hk⟩
@[go_sem] theorem drew_plus : (plus w g).drew = plus w ⟨g.objs, g.n + 1⟩ := rfl
theorem drew_is_plus : w.drew = plus w ⟨#[], w.drawn + 1⟩ := by unfold plus World.drew; rw [Array.append_empty]
theorem alloc_is_plus (o : Obj) : w.alloc o = plus w ⟨#[o], w.drawn⟩ := by unfold plus World.alloc; rw [Array.push_eq_append]
theorem plus_refl : w = plus w ⟨#[], w.drawn⟩ := by simp [plus]
end

@[go_sem] theorem setCell_plus (w : World) (g : Ext) {b i : Nat} (v : Value) (hk : b < w.heap.size) : (plus w g).setCell ⟨b, i, none⟩ v = plus (w.setCell ⟨b, i, none⟩ v) g := by
  have h : ∀ f : Obj → Obj, (w.heap ++ g.objs).modify b f = w.heap.modify b f ++ g.objs := fun f => by
    apply Array.ext_getElem?
    intro k
    simp only [Array.getElem?_modify, Array.getElem?_append, Array.size_modify]
    by_cases hb : b = k
    · subst hb; simp [hk]
    · simp [hb]
  unfold plus World.setCell
  simp only [h]
@[go_sem] theorem lt_add_far {b n m : Nat} (h : b < n) : (b < n + m) = True := eq_true (by omega)
@[go_sem] theorem le_add_far {b n m : Nat} (h : b < n) : (b ≤ n + m) = True := eq_true (by omega)
@[go_sem] theorem lt_add_far2 {b n m0 m1 : Nat} (h : b < n) : (b < n + m0 + m1) = True := eq_true (by omega)
@[go_sem] theorem le_add_far2 {b n m0 m1 : Nat} (h : b < n) : (b ≤ n + m0 + m1) = True := eq_true (by omega)
@[go_sem] theorem lt_add_far3 {b n m0 m1 m2 : Nat} (h : b < n) : (b < n + m0 + m1 + m2) = True := eq_true (by omega)
@[go_sem] theorem le_add_far3 {b n m0 m1 m2 : Nat} (h : b < n) : (b ≤ n + m0 + m1 + m2) = True := eq_true (by omega)
@[go_sem] theorem lt_add_far4 {b n m0 m1 m2 m3 : Nat} (h : b < n) : (b < n + m0 + m1 + m2 + m3) = True := eq_true (by omega)
@[go_sem] theorem le_add_far4 {b n m0 m1 m2 m3 : Nat} (h : b < n) : (b ≤ n + m0 + m1 + m2 + m3) = True := eq_true (by omega)
@[go_sem] theorem lt_add_far5 {b n m0 m1 m2 m3 m4 : Nat} (h : b < n) : (b < n + m0 + m1 + m2 + m3 + m4) = True := eq_true (by omega)
@[go_sem] theorem le_add_far5 {b n m0 m1 m2 m3 m4 : Nat} (h : b < n) : (b ≤ n + m0 + m1 + m2 + m3 + m4) = True := eq_true (by omega)
@[go_sem] theorem lt_add_far6 {b n m0 m1 m2 m3 m4 m5 : Nat} (h : b < n) : (b < n + m0 + m1 + m2 + m3 + m4 + m5) = True := eq_true (by omega)
@[go_sem] theorem le_add_far6 {b n m0 m1 m2 m3 m4 m5 : Nat} (h : b < n) : (b ≤ n + m0 + m1 + m2 + m3 + m4 + m5) = True := eq_true (by omega)
@[go_sem] theorem le_of_lt_far {b n : Nat} (h : b < n) : (b ≤ n) = True := eq_true (by omega)
@[go_sem] theorem ne_add_far {b n m : Nat} (h : b < n) : (b = n + m) = False := eq_false (by omega)
theorem plus_of_below {w w' : World} (h : Below w.heap.size w w') : ∃ g, w' = plus w g := by
  refine ⟨⟨w'.heap.extract w.heap.size w'.heap.size, w'.drawn⟩, ?_⟩
  have hh : w'.heap = w.heap ++ w'.heap.extract w.heap.size w'.heap.size := by
    apply Array.ext_getElem?
    intro i
    by_cases hi : i < w.heap.size
    · rw [h.block i hi, Array.getElem?_append_left hi]
    · rw [Array.getElem?_append_right (by omega), Array.getElem?_extract]
      by_cases h2 : i < w'.heap.size
      · rw [if_pos (by omega)]; congr 1; omega
      · rw [if_neg (by omega), Array.getElem?_eq_none (by omega)]
  cases w' with
  | mk heap tape drawn os output =>
    have h1 := h.os
    have h2 := h.tape
    have h3 := h.output
    simp only at h1 h2 h3 hh
    subst h1 h2 h3
    simp only [plus]
    rw [← hh]

theorem grew_refl (w : World) : ∃ g, w = plus w g := ⟨_, plus_refl w⟩
theorem grew_plus {w W : World} {x : Ext} (h : ∃ g, W = plus w g) : ∃ g, plus W x = plus w g := by
  obtain ⟨g, rfl⟩ := h; exact ⟨_, plus_plus _ _ _⟩
theorem grew_alloc {w W : World} {o : Obj} (h : ∃ g, W = plus w g) : ∃ g, W.alloc o = plus w g := by
  rw [alloc_is_plus]; exact grew_plus h
theorem grew_drew {w W : World} (h : ∃ g, W = plus w g) : ∃ g, W.drew = plus w g := by
  rw [drew_is_plus]; exact grew_plus h
theorem below_of_grew {w W : World} (h : ∃ g, W = plus w g) : Below w.heap.size w W := by
  obtain ⟨g, rfl⟩ := h; exact below_plus _ _
theorem grew_set {w W : World} {b i : Nat} {v : Value} (h : ∃ g, W = plus w g) (hp : w.heap.size ≤ b) : ∃ g, W.setCell ⟨b, i, none⟩ v = plus w g :=
  plus_of_below ((below_of_grew h).setCell hp v)

/-- ONE WALK OF THE LEXICAL ORDER serves every order, for a region that reads and whose callees only add to the world. -/
theorem wp_region_calm {P : Program} {id : Nat} {Q : Exit → Act → World → Prop} {a : Act} {w : World} {l : List Oper} (hm : P.follows .mixedOrders = true) (hB : Region.lexB .any l.toArray = true)
    (h : wpQuiet P l.toArray (fun w' => ∃ g : Ext, w' = plus w g) (fun a' => ∀ w', (∃ g : Ext, w' = plus w g) → Q .normal a' w') l a) : (Code.region id l.toArray true).wp P Q a w :=
  wp_region_quiet (C := fun w' => ∃ g : Ext, w' = plus w g) hm hB ⟨⟨#[], w.drawn + 1⟩, by simp [plus]⟩ (by simpa using h)

theorem calm_of {P : Program} {f : FuncId} {args : Array Value} {w : World} {g : Ext} {v : Value}
    (h : Calls P f args (plus w g) fun e w' => e = .returned v ∧ ∃ h : Ext, w' = plus (plus w g) h) : Calls P f args (plus w g) fun e w'' => e = .returned v ∧ ∃ h : Ext, w'' = plus w h :=
  h.mono fun _ _ ⟨he, m, hm⟩ => ⟨he, g.add m, by rw [hm, plus_plus]⟩
theorem calm_same {P : Program} {f : FuncId} {args : Array Value} {w : World} {g : Ext} {v : Value}
    (h : Calls P f args (plus w g) fun e w' => e = .returned v ∧ plus w g = w') : Calls P f args (plus w g) fun e w'' => e = .returned v ∧ ∃ h : Ext, w'' = plus w h :=
  h.mono fun _ _ ⟨he, hm⟩ => ⟨he, g, hm.symm⟩
theorem add_assoc_ext (g a h : Ext) : (g.add a).add h = g.add (a.add h) := by simp [Ext.add, Array.append_assoc]
theorem calm_add {P : Program} {f : FuncId} {args : Array Value} {w : World} {g a : Ext} {v : Value}
    (h : Calls P f args (plus w (g.add a)) fun e w' => e = .returned v ∧ ∃ h : Ext, w' = plus (plus w (g.add a)) h) : Calls P f args (plus w (g.add a)) fun e w'' => e = .returned v ∧ ∃ h : Ext, w'' = plus w (g.add h) :=
  h.mono fun _ _ ⟨he, m, hm⟩ => ⟨he, a.add m, by rw [hm, plus_plus, add_assoc_ext]⟩
theorem calm_add_same {P : Program} {f : FuncId} {args : Array Value} {w : World} {g a : Ext} {v : Value}
    (h : Calls P f args (plus w (g.add a)) fun e w' => e = .returned v ∧ plus w (g.add a) = w') : Calls P f args (plus w (g.add a)) fun e w'' => e = .returned v ∧ ∃ h : Ext, w'' = plus w (g.add h) :=
  h.mono fun _ _ ⟨he, hm⟩ => ⟨he, a, hm.symm⟩
theorem hid {p : Prop} (h : p) : Hid p := h
theorem below_grew {w W : World} (h : Below w.heap.size w W) : ∃ g, W = plus w g := plus_of_below h
theorem vint {k : IntKind} {a b : Int} (h : a = b) : Value.int k a = Value.int k b := by rw [h]
theorem ret_bool {a b : Bool} (h : a = b) : Ending.returned (.bool a) = .returned (.bool b) := by rw [h]
theorem ret_int {k : IntKind} {a b : Int} (h : a = b) : Ending.returned (.int k a) = .returned (.int k b) := by rw [h]

/-! ### Loops that ask something of each index -/
def allUpto (p : Nat → Bool) (k : Nat) : Bool := (List.range k).all p
theorem allUpto_zero (p : Nat → Bool) : allUpto p 0 = true := rfl
theorem allUpto_succ (p : Nat → Bool) (k : Nat) : allUpto p (k + 1) = (allUpto p k && p k) := by
  simp [allUpto, List.range_succ]
theorem allUpto_step {p : Nat → Bool} {k : Nat} (h : allUpto p k = true) (hk : p k = true) : allUpto p (k + 1) = true := by
  rw [allUpto_succ, h, hk]; rfl
theorem allUpto_no {p : Nat → Bool} {n k : Nat} (h : k < n) (hk : p k = false) : allUpto p n = false := by
  simp only [allUpto, List.all_eq_false, List.mem_range]
  exact ⟨k, h, by simp [hk]⟩
theorem allUpto_iff {p : Nat → Bool} {n : Nat} : allUpto p n = true ↔ ∀ k, k < n → p k = true := by
  simp [allUpto]
theorem allUpto_congr {p q : Nat → Bool} {n : Nat} (h : ∀ k, k < n → p k = q k) : allUpto p n = allUpto q n := by
  simp only [allUpto]
  induction n with
  | zero => rfl
  | succ n ih => rw [List.range_succ, List.all_append, List.all_append, ih (fun k hk => h k (by omega))]; simp [h n (by omega)]

/-! ### Rows in memory -/
/-- The slice value at A, of the elements l (each 's' cells), reads as l. -/
def Sl {α : Type} (w : World) (s : Nat) (cells : α → List Value) (A : Option Addr) (l : List α) : Prop :=
  l = [] ∨ ∃ b off, A = some ⟨b, off, none⟩ ∧ b < w.heap.size ∧ ∀ i (hi : i < l.length) j u, (cells l[i])[j]? = some u → w.cell? ⟨b, off + i * s + j, none⟩ = some u
theorem Sl.nil {α : Type} (w : World) (s : Nat) (cells : α → List Value) (A : Option Addr) : Sl w s cells A [] := .inl rfl
theorem Sl.below {α : Type} {w w' : World} {s : Nat} {cells : α → List Value} {A : Option Addr} {l : List α} (h : Sl w s cells A l) (hb : Below w.heap.size w w') : Sl w' s cells A l := by
  rcases h with h | ⟨b, off, hA, hlt, hc⟩
  · exact .inl h
  · exact .inr ⟨b, off, hA, Nat.lt_of_lt_of_le hlt hb.size, fun i hi j u hu => (hb.cell hlt).trans (hc i hi j u hu)⟩
theorem Sl.grew {α : Type} {w w' : World} {s : Nat} {cells : α → List Value} {A : Option Addr} {l : List α} (h : Sl w s cells A l) (hg : ∃ g, w' = plus w g) : Sl w' s cells A l := h.below (below_of_grew hg)
theorem Sl.plus {α : Type} {w : World} {s : Nat} {cells : α → List Value} {A : Option Addr} {l : List α} (h : Sl w s cells A l) (g : Ext) : Sl (Go.Proofs.YtecghfcgahgfiaaGreatDoor.plus w g) s cells A l := h.below (below_plus _ _)
theorem Sl.add {α : Type} {w : World} {s : Nat} {cells : α → List Value} {A : Option Addr} {l : List α} {g : Ext} (h : Sl (Go.Proofs.YtecghfcgahgfiaaGreatDoor.plus w g) s cells A l) (x : Ext) : Sl (Go.Proofs.YtecghfcgahgfiaaGreatDoor.plus w (g.add x)) s cells A l := by
  rw [← plus_plus]; exact h.plus x
theorem Sl.alloc {α : Type} {w : World} {s : Nat} {cells : α → List Value} {A : Option Addr} {l : List α} (h : Sl w s cells A l) (o : Obj) : Sl (w.alloc o) s cells A l := by
  rw [alloc_is_plus]; exact h.plus _
/-- Elements known one by one, gathered into a list. -/
theorem Sl.collect {α : Type} {w : World} {s n : Nat} {cells : α → List Value} {ad : Addr} {P : α → Prop}
    (key : ∀ i, i < n → ∃ r : α, P r ∧ ∀ j u, (cells r)[j]? = some u → w.cell? (ad.add (i * s + j)) = some u) (hne : ∀ r, P r → ∃ u, (cells r)[0]? = some u) :
    ∃ l : List α, l.length = n ∧ (∀ r ∈ l, P r) ∧ Sl w s cells (some ad) l := by
  have mk : ∀ m, m ≤ n → ∃ l : List α, l.length = m ∧ (∀ r ∈ l, P r) ∧ ∀ i (hi : i < l.length) j u, (cells l[i])[j]? = some u → w.cell? (ad.add (i * s + j)) = some u := by
    intro m
    induction m with
    | zero => intro _; exact ⟨[], rfl, by simp, by simp⟩
    | succ m ih =>
      intro hm
      obtain ⟨l, h1, h2, h3⟩ := ih (by omega)
      obtain ⟨r, hr, hc⟩ := key m (by omega)
      refine ⟨l ++ [r], by simp [h1], ?_, ?_⟩
      · intro x hx
        rcases List.mem_append.1 hx with hx | hx
        · exact h2 x hx
        · simp at hx; subst hx; exact hr
      · intro i hi j u hu
        by_cases him : i < l.length
        · rw [List.getElem_append_left him] at hu; exact h3 i him j u hu
        · have : i = m := by simp [h1] at hi; omega
          subst this
          rw [List.getElem_append_right (by omega)] at hu
          simp [h1] at hu
          exact hc j u hu
  obtain ⟨l, h1, h2, h3⟩ := mk n (Nat.le_refl _)
  refine ⟨l, h1, h2, ?_⟩
  rcases l with _ | ⟨x, r⟩
  · exact .inl rfl
  · obtain ⟨b, off, spot⟩ := ad
    obtain ⟨u, hu⟩ := hne x (h2 x (by simp))
    have hc := h3 0 (by simp) 0 u hu
    have hspot : spot = none := by simpa [Addr.add] using World.cell?_spot hc
    subst hspot
    refine .inr ⟨b, off, rfl, ?_, fun i hi j u hu => ?_⟩
    · have := World.block_lt_of_cell? _ _ hc
      simpa [Addr.add] using this
    · have := h3 i hi j u hu
      have ha : (⟨b, off, none⟩ : Addr).add (i * s + j) = ⟨b, off + i * s + j, none⟩ := by unfold Addr.add; split <;> simp_all <;> omega
      rwa [ha] at this
theorem Sl.at_ {α : Type} {w : World} {s : Nat} {cells : α → List Value} {A : Option Addr} {l : List α} (h : Sl w s cells A l) {k : Nat} (hk : k < l.length) :
    ∃ b off, A = some ⟨b, off, none⟩ ∧ b < w.heap.size ∧ ∀ i (hi : i < l.length) j u, (cells l[i])[j]? = some u → w.cell? ⟨b, off + i * s + j, none⟩ = some u := by
  rcases h with h | h
  · subst h; simp at hk
  · exact h
end Go.Proofs.YtecghfcgahgfiaaGreatDoor
/- Decimal numerals. No program in sight. -/
namespace Go.Proofs.YtecghfcgahgfiaaGreatDoor
open Go.RowKit

def num (n : Int) : ByteArray := ⟨(Go.Lib.itoa n).toArray⟩
theorem nDigits_le : ∀ (k u : Nat), u < 10 ^ (k + 1) → Go.Lib.nDigits u ≤ k + 1 := by
  intro k
  induction k with
  | zero => intro u h; rw [Go.Lib.nDigits_small (by simpa using h)]; omega
  | succ k ih =>
    intro u h
    by_cases h10 : u < 10
    · rw [Go.Lib.nDigits_small h10]; omega
    · rw [Go.Lib.nDigits_big h10]
      have := ih (u / 10) (by rw [Nat.pow_succ] at h; omega)
      omega
theorem num_size (n : Int) (h0 : -1000000000000 ≤ n) (h1 : n ≤ 1000000000000) : (num n).size ≤ 14 := by
  have e : (num n).size = (Go.Lib.itoa n).length := by simp [num, ByteArray.size]
  rw [e]
  unfold Go.Lib.itoa
  split
  · have := nDigits_le 12 n.natAbs (by omega)
    rw [List.length_cons, Go.Lib.decDigits_length]; omega
  · have := nDigits_le 12 n.toNat (by omega)
    rw [Go.Lib.decDigits_length]; omega
theorem num_nat (u : Nat) : num (u : Int) = ⟨(Go.Lib.decDigits u).toArray⟩ := by
  unfold num Go.Lib.itoa
  rw [if_neg (by omega)]; simp
end Go.Proofs.YtecghfcgahgfiaaGreatDoor
/- The name of the table that strconv reads, off the row's own list. -/
namespace Go.Proofs.YtecghfcgahgfiaaGreatDoor
def tabN : String := Rows.fnConsoleRow.named.getD 1 "x"
end Go.Proofs.YtecghfcgahgfiaaGreatDoor
