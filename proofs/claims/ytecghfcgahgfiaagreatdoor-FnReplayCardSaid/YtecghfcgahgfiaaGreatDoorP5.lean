import Derived.Test.YtecghfcgahgfiaaGreatDoorP4
import Derived.Maps.AppendAt
import Derived.OwnWalk
import Derived.RegionTactic
import Derived.Lib.Split
import Derived.Lib.SplitLaws
import Derived.Lib.CountLaws
import Derived.Lib.Atoi
import Derived.Lib.AtoiErr
import Derived.Lib.ItoaNum
/- Lists of the call's own that grow by append, one element at a time. No program in sight. -/
namespace Go.Proofs.YtecghfcgahgfiaaGreatDoor
open Go.RowKit

/-- The slice at A, of capacity c, holds l in a row of its own among the blocks from B on. -/
def Own {α : Type} (B : Nat) (e : TypeId) (s : Nat) (cells : α → List Value) (w : World) (A : Option Addr) (c : Nat) (l : List α) : Prop :=
  w.ownsRow B e s (.slice A l.length c) l.length (l.flatMap cells)
section
variable {α : Type} {B : Nat} {e : TypeId} {s : Nat} {cells : α → List Value} {w w' : World} {A : Option Addr} {c : Nat} {l : List α}
theorem Own.grew (h : Own B e s cells w A c l) (hg : ∃ g, w' = plus w g) : Own B e s cells w' A c l := by
  obtain ⟨g, rfl⟩ := hg
  refine h.kept (row := none) ⟨rfl, rfl, rfl, by simp [plus], fun k hk _ => block_plus w g k hk⟩ ?_
  cases hv : (Value.slice A l.length c).ownBlock <;> simp
theorem Own.less {B' : Nat} (h : Own B e s cells w A c l) (hB : B' ≤ B) : Own B' e s cells w A c l := by
  refine ⟨h.1, ?_⟩
  rcases h.2 with h1 | ⟨g, cap, cur, hv, hb, r⟩
  · exact .inl h1
  · exact .inr ⟨g, cap, cur, hv, by omega, r⟩
theorem Own.nil (B : Nat) (e : TypeId) (s : Nat) (cells : α → List Value) (w : World) : Own B e s cells w none 0 [] := ⟨by simp, .inl ⟨rfl, rfl⟩⟩
theorem Own.new {o : Obj} {b : Nat} (ho : o = .cells #[] e (0, 0)) (hb : b = w.heap.size) (hB : B ≤ w.heap.size) : Own B e s cells (w.alloc o) (some ⟨b, 0, none⟩) 0 ([] : List α) := by
  subst ho hb
  exact ⟨by simp, .inr ⟨w.heap.size, 0, #[], rfl, hB, heap_alloc_new w _, by simp, by simp, by simp, by simp⟩⟩
theorem Own.newIn {o : Obj} {b : Nat} (hg : ∃ g, w' = plus (w.alloc o) g) (ho : o = .cells #[] e (0, 0)) (hb : b = w.heap.size) (hB : B ≤ w.heap.size) : Own B e s cells w' (some ⟨b, 0, none⟩) 0 ([] : List α) := (Own.new ho hb hB).grew hg
theorem flat_get (hs : ∀ x, (cells x).length = s) : ∀ (l : List α) (i : Nat) (hi : i < l.length) (j : Nat) (u : Value), (cells l[i])[j]? = some u → (l.flatMap cells)[i * s + j]? = some u
  | x :: r, 0, _, j, u, hu => by
    simp only [List.getElem_cons_zero] at hu
    have hj := (List.getElem?_eq_some_iff.1 hu).1
    rw [List.flatMap_cons, List.getElem?_append_left (by omega), show 0 * s + j = j by omega]
    exact hu
  | x :: r, i + 1, hi, j, u, hu => by
    simp only [List.getElem_cons_succ] at hu
    rw [List.flatMap_cons, List.getElem?_append_right (by rw [hs]; have : (i + 1) * s = i * s + s := by rw [Nat.add_mul]; omega
                                                          omega), hs, show (i + 1) * s + j - s = i * s + j by rw [Nat.add_mul]; omega]
    exact flat_get hs r i (by simpa using hi) j u hu
theorem Own.sl (h : Own B e s cells w A c l) (hs : ∀ x, (cells x).length = s) : Sl w s cells A l := by
  rcases h.2 with ⟨h1, h2⟩ | ⟨g, cap, cur, hv, hb, hh, hn, hm, hc, ht⟩
  · exact .inl (List.eq_nil_of_length_eq_zero h2)
  · injection hv with hA
    subst hA
    refine .inr ⟨g, 0, rfl, (Array.getElem?_eq_some_iff.1 hh).1, fun i hi j u hu => ?_⟩
    rw [cell_of_row w g _ cur e (0, 0) hh]
    have h1 := flat_get hs l i hi j u hu
    rw [← ht, List.getElem?_take] at h1
    split at h1
    · rw [show 0 + i * s + j = i * s + j by omega]; simpa using h1
    · cases h1
/-- Where it lies: behind B, or nowhere. -/
theorem Own.far (h : Own B e s cells w A c l) : A = none ∧ l = [] ∨ ∃ g, A = some ⟨g, 0, none⟩ ∧ B ≤ g ∧ g < w.heap.size := by
  rcases h.2 with ⟨h1, h2⟩ | ⟨g, cap, cur, hv, hb, hh, hn, hm, hc, ht⟩
  · injection h1 with h1
    exact .inl ⟨h1, List.eq_nil_of_length_eq_zero h2⟩
  · injection hv with hA
    exact .inr ⟨g, hA, hb, (Array.getElem?_eq_some_iff.1 hh).1⟩
end

theorem grew_split {w W : World} {a b : Ext} (h : ∃ g, plus w a = plus W g) : ∃ g, plus w (a.add b) = plus W g := by
  obtain ⟨g, hg⟩ := h
  exact ⟨g.add b, by rw [← plus_plus, hg, plus_plus]⟩
theorem grew_mk {w W : World} {a : Ext} {n : Nat} (h : ∃ g, plus w a = plus W g) : ∃ g, plus w ⟨a.objs, n + 1⟩ = plus W g := by
  obtain ⟨g, hg⟩ := h
  refine ⟨⟨g.objs, n + 1⟩, ?_⟩
  have e1 : plus w ⟨a.objs, n + 1⟩ = { plus w a with drawn := n + 1 } := rfl
  rw [e1, hg]; rfl
theorem vsl {A : Option Addr} {n m c : Nat} (h : n = m) : Value.slice A n c = Value.slice A m c := by rw [h]
theorem ret_sb {A : Option Addr} {n m c : Nat} {a b : Bool} (h : n = m) (h' : a = b) : Ending.returned (.tuple #[.slice A n c, .bool a]) = .returned (.tuple #[.slice A m c, .bool b]) := by rw [h, h']
theorem grew_grown {w0 w w' : World} {row : Option Nat} (h : ∃ g, w = plus w0 g) (hg : w.grownBy w' row) (hr : ∀ k, row = some k → w0.heap.size ≤ k) : ∃ g, w' = plus w0 g :=
  plus_of_below ((below_of_grew h).grown hg (below_of_grew h).size hr)

section
variable {P : Program} {α : Type}
/-- append(out, x) of one element, the element lying in a box. -/
theorem wpList_app {cells : α → List Value} {w0 w : World} {ops : Array Oper} {rest : List Oper} {o : Oper} {a : Act} {Q : Exit → Act → World → Prop} (hgd : o.guard = none) (sl x : Operand) (t : TypeId)
    (ho : o.op = .call { callee := .builtin .append, args := #[sl, x], argTypes := #[t, t] })
    (e : TypeId) (s bytes : Nat) (z : Value) (ht : P.underlying t = some (.slice e)) (hinf : (P.info? e).map (fun i => (i.zero, i.size, i.bytes)) = some (some z, s, bytes)) (hzs : z.cells.size = s) (hsz : 0 < s) (hby : bytes ≤ 4096)
    (A : Option Addr) (c : Nat) (l : List α) (hs : a.eval sl = .slice A l.length c) (hown : Own w0.heap.size e s cells w A c l) (hw : ∃ g, w = plus w0 g) (hl : l.length ≤ 1073741824)
    (ad : Addr) (y : α) (c1 : Nat) (hx : a.eval x = .slice (some ad) 1 c1) (hcl : (cells y).length = s) (hnews : ∀ j u, (cells y)[j]? = some u → w.cell? (ad.add j) = some u) (h1 : ∀ u ∈ cells y, u.oneCell' = true)
    (h : ∀ A' c' g', Own w0.heap.size e s cells (plus w0 g') A' c' (l ++ [y]) → wpList P ops Q rest (a.put o.dst (.slice A' (l ++ [y]).length c')) (plus w0 g')) :
    wpList P ops Q (o :: rest) a w := by
  obtain ⟨i0, hi0, hz0, hz1, hz2⟩ := info_parts hinf
  have hbw := (below_of_grew hw).size
  have hbytes : (l.length + 1) * bytes ≤ 140737488355328 := by
    have := Nat.mul_le_mul (show l.length + 1 ≤ 1073741825 by omega) hby
    omega
  refine wpList_append_own_at w hgd sl x t ho w0.heap.size e i0 z s bytes ht hi0 hz0 hz1 hz2 hzs hsz _ _ _ hs hown ad 1 c1 (cells y) hx (by omega) hnews h1 (by unfold maxLen; omega) hbytes hbw fun v' w' hown' hg _ hat => ?_
  have hfar : ∀ k, (Value.slice A l.length c).ownBlock = some k → w0.heap.size ≤ k := by
    intro k hk
    rcases hown.far with ⟨rfl, rfl⟩ | ⟨g, rfl, hb, _⟩
    · simp [Value.ownBlock] at hk
    · simp [Value.ownBlock] at hk; omega
  obtain ⟨g', rfl⟩ := grew_grown hw hg hfar
  have hlen : l.length + 1 = (l ++ [y]).length := by simp
  have hfl : l.flatMap cells ++ cells y = (l ++ [y]).flatMap cells := by simp
  rw [hlen, hfl] at hown'
  rcases hown'.2 with ⟨rfl, hn⟩ | ⟨g, cap, cur, rfl, _⟩
  · simp at hn
  · exact h _ _ _ hown'
theorem own_some {A : Option Addr} {n c k : Nat} (h : (Value.slice A n c).ownBlock = some k) : ∃ ad, A = some ad ∧ ad.block = k := by
  cases A with
  | none => simp [Value.ownBlock] at h
  | some ad => exact ⟨ad, rfl, by simpa [Value.ownBlock] using h⟩
/-- append(out, x) of one element in a world of which more is to be kept: which block has been written, and where the new list lies. -/
theorem appB {cells : α → List Value} {B : Nat} {w : World} (ty t : TypeId)
    (e : TypeId) (s bytes : Nat) (z : Value) (ht : P.underlying t = some (.slice e)) (hinf : (P.info? e).map (fun i => (i.zero, i.size, i.bytes)) = some (some z, s, bytes)) (hzs : z.cells.size = s) (hsz : 0 < s) (hby : bytes ≤ 4096)
    (A : Option Addr) (c : Nat) (l : List α) (hown : Own B e s cells w A c l) (hB : B ≤ w.heap.size) (hl : l.length ≤ 1073741824)
    (ad : Addr) (y : α) (c1 : Nat) (hcl : (cells y).length = s) (hnews : ∀ j u, (cells y)[j]? = some u → w.cell? (ad.add j) = some u) (h1 : ∀ u ∈ cells y, u.oneCell' = true) :
    ∃ A' c' w', (Builtin.append_ #[t, t] ty #[.slice A l.length c, .slice (some ad) 1 c1]).run P w = .ok (.slice A' (l ++ [y]).length c') w' ∧ Own B e s cells w' A' c' (l ++ [y]) ∧ w.grownBy w' (Value.slice A l.length c).ownBlock ∧
      (∀ a', A' = some a' → (∃ a0, A = some a0 ∧ a0.block = a'.block) ∨ a'.block = w.heap.size) := by
  obtain ⟨i0, hi0, hz0, hz1, hz2⟩ := info_parts hinf
  have hbytes : (l.length + 1) * bytes ≤ 140737488355328 := by
    have := Nat.mul_le_mul (show l.length + 1 ≤ 1073741825 by omega) hby
    omega
  obtain ⟨v', w', hr, hown', hg, _, hat⟩ := run_append_own_at (P := P) w B t ty e i0 z s bytes ht hi0 hz0 hz1 hz2 hzs hsz _ _ _ hown ad 1 c1 (cells y) (by omega) hnews h1 (by unfold maxLen; omega) hbytes hB
  have hlen : l.length + 1 = (l ++ [y]).length := by simp
  have hfl : l.flatMap cells ++ cells y = (l ++ [y]).flatMap cells := by simp
  rw [hlen, hfl] at hown'
  rcases hown'.2 with ⟨rfl, hn⟩ | ⟨g, cap, cur, rfl, _⟩
  · simp at hn
  · refine ⟨_, _, w', hr, hown', hg, fun a' ha' => ?_⟩
    rcases hat with h | h
    · obtain ⟨a0, h2, h3⟩ := own_some (h.symm.trans (show (Value.slice (some ⟨g, 0, none⟩) (l ++ [y]).length cap).ownBlock = some g from rfl))
      injection ha' with ha'
      exact .inl ⟨a0, h2, by rw [h3, ← ha']⟩
    · injection ha' with ha'
      simp [Value.ownBlock] at h
      exact .inr (by rw [← ha']; exact h)
theorem wpList_appB {cells : α → List Value} {B : Nat} {w : World} {ops : Array Oper} {rest : List Oper} {o : Oper} {a : Act} {Q : Exit → Act → World → Prop} (hgd : o.guard = none) (sl x : Operand) (t : TypeId)
    (ho : o.op = .call { callee := .builtin .append, args := #[sl, x], argTypes := #[t, t] })
    (e : TypeId) (s bytes : Nat) (z : Value) (ht : P.underlying t = some (.slice e)) (hinf : (P.info? e).map (fun i => (i.zero, i.size, i.bytes)) = some (some z, s, bytes)) (hzs : z.cells.size = s) (hsz : 0 < s) (hby : bytes ≤ 4096)
    (A : Option Addr) (c : Nat) (l : List α) (n : Nat) (hn : n = l.length) (hs : a.eval sl = .slice A n c) (hown : Own B e s cells w A c l) (hB : B ≤ w.heap.size) (hl : l.length ≤ 1073741824)
    (ad : Addr) (y : α) (c1 : Nat) (hx : a.eval x = .slice (some ad) 1 c1) (hcl : (cells y).length = s) (hnews : ∀ j u, (cells y)[j]? = some u → w.cell? (ad.add j) = some u) (h1 : ∀ u ∈ cells y, u.oneCell' = true)
    (h : ∀ A' c' w', Own B e s cells w' A' c' (l ++ [y]) → w.grownBy w' (Value.slice A n c).ownBlock → (∀ a', A' = some a' → (∃ a0, A = some a0 ∧ a0.block = a'.block) ∨ a'.block = w.heap.size) → wpList P ops Q rest (a.put o.dst (.slice A' (n + 1) c')) w') :
    wpList P ops Q (o :: rest) a w := by
  subst hn
  refine wpList_plain hgd fun K hK => ?_
  obtain ⟨A', c', w', hr, h2, h3, h4⟩ := appB (P := P) o.type t e s bytes z ht hinf hzs hsz hby A c l hown hB hl ad y c1 hcl hnews h1
  rw [show (l ++ [y]).length = l.length + 1 by simp] at hr
  unfold Oper.wp execOp
  simp only [ho, resolve, invoke, builtin, Sem.run_bind, Sem.run_pure, Result.andThen_ok, List.map_toArray, List.map_cons, List.map_nil, hs, hx, hr]
  exact hK _ _ (h A' c' w' h2 h3 h4)
theorem step_appB {cells : α → List Value} {B : Nat} {w : World} {ops : Array Oper} {o : Oper} {a : Act} {K : Act → World → Prop} {Q : Exit → Act → World → Prop} {E : Prop} (hgd : o.guard = none) (sl x : Operand) (t : TypeId)
    (ho : o.op = .call { callee := .builtin .append, args := #[sl, x], argTypes := #[t, t] })
    (e : TypeId) (s bytes : Nat) (z : Value) (ht : P.underlying t = some (.slice e)) (hinf : (P.info? e).map (fun i => (i.zero, i.size, i.bytes)) = some (some z, s, bytes)) (hzs : z.cells.size = s) (hsz : 0 < s) (hby : bytes ≤ 4096)
    (A : Option Addr) (c : Nat) (l : List α) (n : Nat) (hn : n = l.length) (hs : a.eval sl = .slice A n c) (hown : Own B e s cells w A c l) (hB : B ≤ w.heap.size) (hl : l.length ≤ 1073741824)
    (ad : Addr) (y : α) (c1 : Nat) (hx : a.eval x = .slice (some ad) 1 c1) (hcl : (cells y).length = s) (hnews : ∀ j u, (cells y)[j]? = some u → w.cell? (ad.add j) = some u) (h1 : ∀ u ∈ cells y, u.oneCell' = true)
    (h : ∀ A' c' w', Own B e s cells w' A' c' (l ++ [y]) → w.grownBy w' (Value.slice A n c).ownBlock → (∀ a', A' = some a' → (∃ a0, A = some a0 ∧ a0.block = a'.block) ∨ a'.block = w.heap.size) → K (a.put o.dst (.slice A' (n + 1) c')) w') :
    if Region.wanted o (yielded ops a.tmps) = true then Oper.wp P o a w K Q else E := by
  subst hn
  have hw : Region.wanted o (yielded ops a.tmps) = true := by simp [Region.wanted, hgd]
  rw [if_pos hw]
  obtain ⟨A', c', w', hr, h2, h3, h4⟩ := appB (P := P) o.type t e s bytes z ht hinf hzs hsz hby A c l hown hB hl ad y c1 hcl hnews h1
  rw [show (l ++ [y]).length = l.length + 1 by simp] at hr
  unfold Oper.wp execOp
  simp only [ho, resolve, invoke, builtin, Sem.run_bind, Sem.run_pure, Result.andThen_ok, List.map_toArray, List.map_cons, List.map_nil, hs, hx, hr]
  exact h A' c' w' h2 h3 h4
end
end Go.Proofs.YtecghfcgahgfiaaGreatDoor
/- Lists that lie in a block of their own, which a call may write: marking, and what stays. No program in sight. -/
namespace Go.Proofs.YtecghfcgahgfiaaGreatDoor
open Go.RowKit

def OwnF {α : Type} (B : Nat) (e : TypeId) (s : Nat) (cells : α → List Value) (w : World) (A : Option Addr) (l : List α) : Prop :=
  l = [] ∨ ∃ g cs, A = some ⟨g, 0, none⟩ ∧ B ≤ g ∧ Blk w g e cs ∧ l.length * s ≤ cs.size ∧ Filled cs s cells l l.length
/-- The block that is written when the list is marked. -/
def rowOf {α : Type} (A : Option Addr) : List α → Option Nat
  | [] => none
  | _ :: _ => A.map (·.block)
theorem rowOf_some {α : Type} {g : Nat} {l : List α} (h : 0 < l.length) : rowOf (some ⟨g, 0, none⟩) l = some g := by
  cases l with
  | nil => simp at h
  | cons x r => rfl
section
variable {α : Type} {B : Nat} {e : TypeId} {s : Nat} {cells : α → List Value} {w w' : World} {A : Option Addr} {c : Nat} {l : List α}
theorem Own.f (h : Own B e s cells w A c l) (hs : ∀ x, (cells x).length = s) : OwnF B e s cells w A l := by
  rcases h.2 with ⟨h1, h2⟩ | ⟨g, cap, cur, hv, hb, hh, hn, hm, hc, ht⟩
  · exact .inl (List.eq_nil_of_length_eq_zero h2)
  · injection hv with hA
    subst hA
    refine .inr ⟨g, cur, rfl, hb, hh, by rw [hc]; exact Nat.mul_le_mul_right _ hn, fun i hi _ j u hu => ?_⟩
    have h1 := flat_get hs l i hi j u hu
    rw [← ht, List.getElem?_take] at h1
    split at h1
    · simpa using h1
    · cases h1
theorem OwnF.split (h : OwnF B e s cells w A l) : l = [] ∨ (0 < l.length ∧ ∃ g cs, A = some ⟨g, 0, none⟩ ∧ B ≤ g ∧ Blk w g e cs ∧ l.length * s ≤ cs.size ∧ Filled cs s cells l l.length) := by
  cases l with
  | nil => exact .inl rfl
  | cons x r =>
    rcases h with h | h
    · cases h
    · exact .inr ⟨by simp, h⟩
theorem OwnF.sl (h : OwnF B e s cells w A l) : Sl w s cells A l := by
  rcases h with h | ⟨g, cs, rfl, hb, hB, hs, hF⟩
  · exact .inl h
  · exact Sl.of_blk hB hF
theorem OwnF.kept {row : Option Nat} (h : OwnF B e s cells w A l) (hg : w.grownBy w' row) (hr : ∀ k, row = some k → k < B) : OwnF B e s cells w' A l := by
  rcases h with h | ⟨g, cs, rfl, hb, hB, hs, hF⟩
  · exact .inl h
  · exact .inr ⟨g, cs, rfl, hb, hB.grown hg (fun e => by have := hr g e.symm; omega), hs, hF⟩
theorem grown_plus (w : World) (g : Ext) (row : Option Nat) : w.grownBy (plus w g) row := ⟨rfl, rfl, rfl, by simp [plus], fun k hk _ => block_plus w g k hk⟩
theorem OwnF.grew (h : OwnF B e s cells w A l) (hg : ∃ g, w' = plus w g) : OwnF B e s cells w' A l := by
  obtain ⟨g, rfl⟩ := hg
  exact h.kept (grown_plus w g none) (by simp)
theorem OwnF.less {B' : Nat} (h : OwnF B e s cells w A l) (hB : B' ≤ B) : OwnF B' e s cells w A l := by
  rcases h with h | ⟨g, cs, hA, hb, r⟩
  · exact .inl h
  · exact .inr ⟨g, cs, hA, by omega, r⟩
theorem OwnF.base {x : Ext} (h : OwnF B e s cells (plus w x) A l) (hB : w.heap.size ≤ B) (hs : w'.heap.size = w.heap.size) : OwnF B e s cells (plus w' x) A l := by
  rcases h with h | ⟨g, cs, rfl, hb, hK, r⟩
  · exact .inl h
  · exact .inr ⟨g, cs, rfl, hb, hK.base (by omega) hs, r⟩
theorem OwnF.row (h : OwnF B e s cells w A l) : ∀ k, rowOf A l = some k → B ≤ k ∧ k < w.heap.size := by
  intro k hk
  rcases h with rfl | ⟨g, cs, rfl, hb, hB, _⟩
  · simp [rowOf] at hk
  · cases l with
    | nil => simp [rowOf] at hk
    | cons x r => simp [rowOf] at hk; subst hk; exact ⟨hb, hB.lt⟩
end
theorem grown_refl (w : World) (row : Option Nat) : w.grownBy w row := ⟨rfl, rfl, rfl, Nat.le_refl _, fun _ _ _ => rfl⟩
theorem grown_set {w w' : World} {g i : Nat} {v : Value} (h : w.grownBy w' (some g)) : w.grownBy (w'.setCell ⟨g, i, none⟩ v) (some g) :=
  ⟨h.os, h.tape, h.output, by simpa [World.setCell] using h.size, fun k hk hne => by
    rw [← h.block k hk hne]
    exact Below.heap_setCell w' _ v k (by intro e; apply hne; rw [e])⟩
theorem grown_then {w w' w'' : World} {row : Option Nat} (h : w.grownBy w' row) (hg : ∃ g, w'' = plus w' g) : w.grownBy w'' row := by
  obtain ⟨g, rfl⟩ := hg
  exact h.trans (grown_plus w' g row)
theorem grown_of_grew {w w' : World} (hg : ∃ g, w' = plus w g) (row : Option Nat) : w.grownBy w' row := by
  obtain ⟨g, rfl⟩ := hg
  exact grown_plus w g row
theorem blk_kept {w w' : World} {g : Nat} {t : TypeId} {cs : Array Value} {A : Option Addr} {n c : Nat} (h : Blk w g t cs) (hg : w.grownBy w' (Value.slice A n c).ownBlock) (hne : ∀ a, A = some a → a.block ≠ g) : Blk w' g t cs :=
  h.grown hg fun e => by
    obtain ⟨ad, h1, h2⟩ := own_some e.symm
    exact hne ad h1 h2
theorem Own.ne {α : Type} {B : Nat} {e : TypeId} {s : Nat} {cells : α → List Value} {w : World} {A : Option Addr} {c : Nat} {l : List α} (h : Own B e s cells w A c l) : ∀ a, A = some a → B ≤ a.block ∧ a.block < w.heap.size := by
  intro a ha
  rcases h.far with ⟨rfl, _⟩ | ⟨g, rfl, h1, h2⟩
  · cases ha
  · injection ha with ha; subst ha; exact ⟨h1, h2⟩
theorem Own.setFar {α : Type} {B : Nat} {e : TypeId} {s : Nat} {cells : α → List Value} {w : World} {A : Option Addr} {c : Nat} {l : List α} {g i : Nat} {v : Value} (h : Own B e s cells w A c l) (hne : ∀ a, A = some a → a.block ≠ g) : Own B e s cells (w.setCell ⟨g, i, none⟩ v) A c l := by
  refine World.ownsRow.kept h (row := some g) (grown_set (grown_refl w _)) ?_
  cases A with
  | none => exact .inl rfl
  | some a => exact .inr (by have := hne a rfl; simp [Value.ownBlock]; exact this)
theorem blk_new {w : World} {b : Nat} {t : TypeId} {cs : Array Value} (hb : b = w.heap.size) : Blk (w.alloc (.cells cs t)) b t cs := by
  subst hb; exact Blk.new w t cs
theorem blk_grew {w w' : World} {g : Nat} {t : TypeId} {cs : Array Value} (h : Blk w g t cs) (hg : ∃ g, w' = plus w g) : Blk w' g t cs := by
  obtain ⟨x, rfl⟩ := hg; exact h.plus x
theorem grew_own {w0 w w' : World} {A : Option Addr} {n c : Nat} (h : ∃ g, w = plus w0 g) (hg : w.grownBy w' (Value.slice A n c).ownBlock) (hr : ∀ a, A = some a → w0.heap.size ≤ a.block) : ∃ g, w' = plus w0 g :=
  grew_grown h hg fun k hk => by
    obtain ⟨ad, h1, h2⟩ := own_some hk
    rw [← h2]; exact hr ad h1
end Go.Proofs.YtecghfcgahgfiaaGreatDoor
/- Cutting and splitting texts, in both packages. -/
namespace Go.Proofs.YtecghfcgahgfiaaGreatDoor
open Go.RowKit

theorem ret_ssb {a b c d : ByteArray} {e f : Bool} (h : a = b) (h' : c = d) (h'' : e = f) : Ending.returned (.tuple #[.string a, .string c, .bool e]) = .returned (.tuple #[.string b, .string d, .bool f]) := by rw [h, h', h'']
theorem i_Cut (s : ByteArray) (b : UInt8) (w : World) (hs : s.size ≤ 4194304) (hE : Env w) :
    Calls Tryz.prog 106 #[.string s, .string ⟨#[b]⟩] w fun e w' => e = .returned (.tuple #[.string ⟨(cutB b (bl s)).1.toArray⟩, .string ⟨(cutB b (bl s)).2.1.toArray⟩, .bool (cutB b (bl s)).2.2]) ∧ ∃ g, w' = plus w g := by
  obtain ⟨m, hm⟩ := hE.mx
  have h := Tryz.strings_Cut s ⟨#[b]⟩ m w (by omega) hm
  have e1 : Go.Lib.cut (bl s) (bl ⟨#[b]⟩) = cutB b (bl s) := cut_one b (bl s)
  refine h.mono fun e w' ⟨he, n, hw⟩ => ⟨?_, ⟨#[], w.drawn + n⟩, ?_⟩
  · rw [he]
    change Ending.returned (.tuple #[.string ⟨(Go.Lib.cut (bl s) (bl ⟨#[b]⟩)).1.toArray⟩, .string ⟨(Go.Lib.cut (bl s) (bl ⟨#[b]⟩)).2.1.toArray⟩, .bool (Go.Lib.cut (bl s) (bl ⟨#[b]⟩)).2.2]) = _
    rw [e1]
  · rw [hw]; unfold plus World.drewN; rw [Array.append_empty]
/-- The pieces of a text between bytes, as far as k: what is done, and where the rest begins. -/
def splitTo (s : ByteArray) (b : UInt8) : Nat → List ByteArray × Nat
  | 0 => ([], 0)
  | k + 1 => if (bl s)[k]? = some b then ((splitTo s b k).1 ++ [s.extract (splitTo s b k).2 k], k + 1) else splitTo s b k
def splitV (s : ByteArray) (b : UInt8) : List ByteArray := (splitTo s b s.size).1 ++ [s.extract (splitTo s b s.size).2 s.size]
theorem splitTo_le (s : ByteArray) (b : UInt8) : ∀ k, (splitTo s b k).2 ≤ k ∧ (splitTo s b k).1.length ≤ k := by
  intro k
  induction k with
  | zero => simp [splitTo]
  | succ k ih =>
    simp only [splitTo]
    split
    · simp; omega
    · omega
theorem split_yes {s : ByteArray} {b : UInt8} {k : Nat} (hk : k < s.size) (h : s[k] = b) : splitTo s b (k + 1) = ((splitTo s b k).1 ++ [s.extract (splitTo s b k).2 k], k + 1) := by
  have e : (bl s)[k]? = some b := by rw [List.getElem?_eq_getElem (by rw [bl_len]; exact hk)]; subst h; rfl
  rw [splitTo, if_pos e]
theorem split_no {s : ByteArray} {b : UInt8} {k : Nat} (hk : k < s.size) (h : s[k] ≠ b) : splitTo s b (k + 1) = splitTo s b k := by
  have e : ¬ (bl s)[k]? = some b := by
    rw [List.getElem?_eq_getElem (by rw [bl_len]; exact hk)]
    intro h2; injection h2 with h2; exact h h2
  rw [splitTo, if_neg e]
theorem splitV_pos (s : ByteArray) (b : UInt8) : 0 < (splitV s b).length := by simp [splitV]
theorem splitV_len (s : ByteArray) (b : UInt8) : (splitV s b).length ≤ s.size + 1 := by
  have := (splitTo_le s b s.size).2
  simp [splitV]; omega
theorem ba_ext {a b : ByteArray} (h : bl a = bl b) : a = b := ByteArray.ext (Array.ext' h)
theorem bl_extract (s : ByteArray) (i j : Nat) : bl (s.extract i j) = ((bl s).drop i).take (j - i) := by
  simp [bl, ByteArray.data_extract]
/-- Where there is one, the first piece is what stands ahead of the first b. -/
theorem split_first (s : ByteArray) (b : UInt8) : ∀ k, k ≤ s.size → (splitTo s b k = ([], 0) ∧ ∀ c ∈ (bl s).take k, c ≠ b) ∨ (∃ j r, j < k ∧ (splitTo s b k).1 = s.extract 0 j :: r ∧ (cutB b (bl s)).1 = (bl s).take j ∧ (cutB b (bl s)).2.2 = true) := by
  intro k
  induction k with
  | zero => intro _; left; simp [splitTo]
  | succ k ih =>
    intro hk
    have hlt : k < s.size := by omega
    have ts := take_step s k hlt
    by_cases hb : s[k] = b
    · rw [split_yes hlt hb]
      rcases ih (by omega) with ⟨h1, h2⟩ | ⟨j, r, hj, h1, h2, h3⟩
      · right
        refine ⟨k, [], by omega, by rw [h1]; rfl, ?_⟩
        have hd : bl s = (bl s).take k ++ b :: (bl s).drop (k + 1) := by
          have h := List.take_append_drop (k + 1) (bl s)
          rw [ts, hb, List.append_assoc] at h
          exact h.symm
        have hc := cutB_app b ((bl s).take k) ((bl s).drop (k + 1)) h2
        rw [← hd] at hc
        rw [hc]; exact ⟨rfl, rfl⟩
      · right
        exact ⟨j, r ++ [s.extract (splitTo s b k).2 k], by omega, by rw [h1]; rfl, h2, h3⟩
    · rw [split_no hlt hb]
      rcases ih (by omega) with ⟨h1, h2⟩ | ⟨j, r, hj, h1, h2, h3⟩
      · left
        refine ⟨h1, ?_⟩
        rw [ts]
        intro c hc
        rcases List.mem_append.1 hc with hc | hc
        · exact h2 c hc
        · simp at hc; subst hc; exact hb
      · right; exact ⟨j, r, by omega, h1, h2, h3⟩
theorem split_head (s : ByteArray) (b : UInt8) : ∃ r, splitV s b = ⟨(cutB b (bl s)).1.toArray⟩ :: r ∧ (r = [] ↔ (cutB b (bl s)).2.2 = false) := by
  rcases split_first s b s.size (Nat.le_refl _) with ⟨h1, h2⟩ | ⟨j, r, hj, h1, h2, h3⟩
  · rw [take_all] at h2
    refine ⟨[], ?_, ?_⟩
    · rw [splitV, h1, cutB_none b _ h2]
      have : s.extract 0 s.size = s := ba_ext (by rw [bl_extract, List.drop_zero, Nat.sub_zero, take_all])
      rw [this]; rfl
    · rw [cutB_none b _ h2]; simp
  · refine ⟨r ++ [s.extract (splitTo s b s.size).2 s.size], ?_, ?_⟩
    · rw [splitV, h1, h2]
      have e : s.extract 0 j = ⟨((bl s).take j).toArray⟩ := ba_ext (by rw [bl_extract, List.drop_zero, Nat.sub_zero])
      rw [e]; rfl
    · rw [h3]; simp
def strRow (s : ByteArray) : List Value := [.string s]
theorem strRow_len (s : ByteArray) : (strRow s).length = 1 := rfl
theorem str_info : (Tryz.prog.info? 9).map (fun i => (i.zero, i.size, i.bytes)) = some (some (.string ByteArray.empty), 1, 16) := by kernel_rfl
theorem vstr {a b : ByteArray} (h : a = b) : Value.string a = Value.string b := by rw [h]
set_option maxHeartbeats 2000000 in
theorem s_l1Split (s : ByteArray) (b : UInt8) (n : Int) (hn : n = b.toNat) (w : World) (hs : s.size ≤ 4194304) :
    Calls Tryz.prog 46 #[.string s, .int .u8 n] w fun e w' => (∃ A c, e = .returned (.slice A (splitV s b).length c) ∧ Own w.heap.size 9 1 strRow w' A c (splitV s b)) ∧ ∃ g, w' = plus w g := by
  have HN := hid hn
  clear hn
  go_enter Tryz.func46, Tryz.ntmps46
  go_wp2_with fail
  go_loopw [5, 6, 7] (fun o f i wr => ∃ (k : Nat) (A : Option Addr) (c : Nat), k ≤ s.size ∧ i = .int .i64 k ∧ f = .int .i64 (splitTo s b k).2 ∧ o = .slice A (splitTo s b k).1.length c ∧ Own w.heap.size 9 1 strRow wr A c (splitTo s b k).1 ∧ ∃ g, wr = plus w g) (fun _ _ i _ => s.size - (intOf i).toNat)
  case atStart => exact ⟨0, _, _, Nat.zero_le _, rfl, rfl, rfl, Own.newIn (o := .cells #[] 9) (by (repeat (first | with_reducible exact grew_refl _ | with_reducible assumption | with_reducible refine grew_split ?_ | with_reducible refine grew_mk ?_ | with_reducible refine grew_plus ?_ | with_reducible refine grew_alloc ?_ | with_reducible refine grew_drew ?_ | (with_reducible refine grew_set ?_ (by first | exact Nat.le_refl _ | omega | (simp [go_sem]; done) | (simp [go_sem]; omega)))))) rfl rfl (Nat.le_refl _), by (repeat (first | with_reducible exact grew_refl _ | with_reducible assumption | with_reducible refine grew_split ?_ | with_reducible refine grew_mk ?_ | with_reducible refine grew_plus ?_ | with_reducible refine grew_alloc ?_ | with_reducible refine grew_drew ?_ | (with_reducible refine grew_set ?_ (by first | exact Nat.le_refl _ | omega | (simp [go_sem]; done) | (simp [go_sem]; omega)))))⟩
  case round =>
    obtain ⟨k, A, c, hk, rfl, rfl, rfl, hO, hg⟩ := hrel
    have HO := hid hO
    have HG := hid hg
    obtain ⟨f1, f2⟩ := splitTo_le s b k
    clear hO hg
    by_cases hlt : k < s.size
    · by_cases hb : s[k] = b
      · have h1 : ((s[k].toNat : Int) == n) = true := by rw [HN.out, hb]; simp
        have HS := hid (split_yes hlt hb)
        have hg := HG.out
        clear hb
        go_wp2_with (at_builtin; go_loud (refine wpList_app (w0 := w) rfl _ _ _ rfl 9 1 16 _ Tryz.underlying41 str_info rfl (by omega) (by omega) _ _ (splitTo s b k).1 rfl (HO.out.grew (by (repeat (first | with_reducible exact grew_refl _ | with_reducible assumption | with_reducible refine grew_split ?_ | with_reducible refine grew_mk ?_ | with_reducible refine grew_plus ?_ | with_reducible refine grew_alloc ?_ | with_reducible refine grew_drew ?_ | (with_reducible refine grew_set ?_ (by first | exact Nat.le_refl _ | omega | (simp [go_sem]; done) | (simp [go_sem]; omega))))))) (by (repeat (first | with_reducible exact grew_refl _ | with_reducible assumption | with_reducible refine grew_split ?_ | with_reducible refine grew_mk ?_ | with_reducible refine grew_plus ?_ | with_reducible refine grew_alloc ?_ | with_reducible refine grew_drew ?_ | (with_reducible refine grew_set ?_ (by first | exact Nat.le_refl _ | omega | (simp [go_sem]; done) | (simp [go_sem]; omega)))))) (by omega) _ (s.extract (splitTo s b k).2 k) _ rfl rfl (by intro j u hj; match j, hj with | 0, hj => simp [strRow] at hj; subst hj; simp [Addr.add, go_sem]) (by simp [strRow, Value.oneCell']) ?_); intro A1 c1 g1 HO1)
        go_roundw
        case rel => exact ⟨k + 1, A1, c1, by omega, by go_num, by rw [HS.out]; go_num, by rw [HS.out]; exact vsl (by simp), by rw [HS.out]; exact HO1, by (repeat (first | with_reducible exact grew_refl _ | with_reducible assumption | with_reducible refine grew_split ?_ | with_reducible refine grew_mk ?_ | with_reducible refine grew_plus ?_ | with_reducible refine grew_alloc ?_ | with_reducible refine grew_drew ?_ | (with_reducible refine grew_set ?_ (by first | exact Nat.le_refl _ | omega | (simp [go_sem]; done) | (simp [go_sem]; omega)))))⟩
        case measure => simp [intOf]; omega
      · have h1 : ((s[k].toNat : Int) == n) = false := by
          rw [HN.out, beq_eq_false_iff_ne]
          intro e
          exact hb (UInt8.toNat_inj.1 (by omega))
        have HS := hid (split_no hlt hb)
        have hg := HG.out
        clear hb
        go_wp2_with fail
        go_roundw
        case rel => exact ⟨k + 1, A, c, by omega, by go_num, by rw [HS.out], by rw [HS.out], by rw [HS.out]; exact HO.out, by (repeat (first | with_reducible exact grew_refl _ | with_reducible assumption | with_reducible refine grew_split ?_ | with_reducible refine grew_mk ?_ | with_reducible refine grew_plus ?_ | with_reducible refine grew_alloc ?_ | with_reducible refine grew_drew ?_ | (with_reducible refine grew_set ?_ (by first | exact Nat.le_refl _ | omega | (simp [go_sem]; done) | (simp [go_sem]; omega)))))⟩
        case measure => simp [intOf]; omega
    · obtain rfl : k = s.size := by omega
      have hg := HG.out
      go_wp2_with (at_builtin; go_loud (refine wpList_app (w0 := w) rfl _ _ _ rfl 9 1 16 _ Tryz.underlying41 str_info rfl (by omega) (by omega) _ _ (splitTo s b s.size).1 rfl (HO.out.grew (by (repeat (first | with_reducible exact grew_refl _ | with_reducible assumption | with_reducible refine grew_split ?_ | with_reducible refine grew_mk ?_ | with_reducible refine grew_plus ?_ | with_reducible refine grew_alloc ?_ | with_reducible refine grew_drew ?_ | (with_reducible refine grew_set ?_ (by first | exact Nat.le_refl _ | omega | (simp [go_sem]; done) | (simp [go_sem]; omega))))))) (by (repeat (first | with_reducible exact grew_refl _ | with_reducible assumption | with_reducible refine grew_split ?_ | with_reducible refine grew_mk ?_ | with_reducible refine grew_plus ?_ | with_reducible refine grew_alloc ?_ | with_reducible refine grew_drew ?_ | (with_reducible refine grew_set ?_ (by first | exact Nat.le_refl _ | omega | (simp [go_sem]; done) | (simp [go_sem]; omega)))))) (by omega) _ (s.extract (splitTo s b s.size).2 s.size) _ rfl rfl (by intro j u hj; match j, hj with | 0, hj => simp [strRow] at hj; subst hj; simp [Addr.add, go_sem]) (by simp [strRow, Value.oneCell']) ?_); intro A1 c1 g1 HO1)
      go_ret
      exact ⟨⟨A1, c1, by simp [splitV], HO1⟩, by (repeat (first | with_reducible exact grew_refl _ | with_reducible assumption | with_reducible refine grew_split ?_ | with_reducible refine grew_mk ?_ | with_reducible refine grew_plus ?_ | with_reducible refine grew_alloc ?_ | with_reducible refine grew_drew ?_ | (with_reducible refine grew_set ?_ (by first | exact Nat.le_refl _ | omega | (simp [go_sem]; done) | (simp [go_sem]; omega)))))⟩
end Go.Proofs.YtecghfcgahgfiaaGreatDoor
/- Splitting a text at a byte: the library's pieces are the reference's pieces. No program in sight. -/
namespace Go.Proofs.YtecghfcgahgfiaaGreatDoor
open Go.RowKit

def pieces (b : UInt8) : Bytes → List Bytes
  | [] => [[]]
  | c :: r => if c = b then [] :: pieces b r else match pieces b r with
    | [] => [[c]]
    | p :: q => (c :: p) :: q
theorem pieces_none {b : UInt8} : ∀ {l : Bytes}, (∀ c ∈ l, c ≠ b) → pieces b l = [l]
  | [], _ => rfl
  | c :: r, h => by
    rw [pieces, if_neg (h c (by simp)), pieces_none (fun d hd => h d (by simp [hd]))]
theorem pieces_app {b : UInt8} : ∀ {x : Bytes} (r : Bytes), (∀ c ∈ x, c ≠ b) → pieces b (x ++ b :: r) = x :: pieces b r
  | [], r, _ => by simp [pieces]
  | c :: x, r, h => by
    rw [List.cons_append, pieces, if_neg (h c (by simp)), pieces_app r (fun d hd => h d (by simp [hd]))]
theorem pieces_cut (b : UInt8) (s : Bytes) : pieces b s = if (cutB b s).2.2 then (cutB b s).1 :: pieces b (cutB b s).2.1 else [s] := by
  cases h : (cutB b s).2.2
  · have h1 := cutB_miss b s h
    have h2 := cutB_free b s
    rw [h1] at h2
    exact pieces_none h2
  · conv => lhs; rw [cutB_found b s h]
    exact pieces_app _ (cutB_free b s)
theorem pieces_snoc (b c : UInt8) : ∀ l : Bytes, ∃ i x, pieces b l = i ++ [x] ∧ pieces b (l ++ [c]) = if c = b then i ++ [x, []] else i ++ [x ++ [c]]
  | [] => ⟨[], [], rfl, by by_cases h : c = b <;> simp [pieces, h]⟩
  | d :: r => by
    obtain ⟨i, x, h1, h2⟩ := pieces_snoc b c r
    by_cases hd : d = b
    · refine ⟨[] :: i, x, by rw [pieces, if_pos hd, h1]; rfl, ?_⟩
      rw [List.cons_append, pieces, if_pos hd, h2]
      by_cases h : c = b <;> simp [h]
    · cases i with
      | nil =>
        refine ⟨[], d :: x, by rw [pieces, if_neg hd, h1]; rfl, ?_⟩
        rw [List.cons_append, pieces, if_neg hd, h2]
        by_cases h : c = b <;> simp [h]
      | cons p q =>
        refine ⟨(d :: p) :: q, x, by rw [pieces, if_neg hd, h1]; rfl, ?_⟩
        rw [List.cons_append, pieces, if_neg hd, h2]
        by_cases h : c = b <;> simp [h]
theorem app_one_inj {α : Type} {i j : List α} {x y : α} (h : i ++ [x] = j ++ [y]) : i = j ∧ x = y := by
  have := List.append_inj' h rfl
  exact ⟨this.1, by simpa using this.2⟩
theorem splitTo_pieces (s : ByteArray) (b : UInt8) : ∀ k, k ≤ s.size → pieces b ((bl s).take k) = (splitTo s b k).1.map bl ++ [((bl s).take k).drop (splitTo s b k).2] := by
  intro k
  induction k with
  | zero => intro _; simp [splitTo, pieces]
  | succ k ih =>
    intro hk
    have hlt : k < s.size := by omega
    have ih := ih (by omega)
    have hle := (splitTo_le s b k).1
    obtain ⟨i, x, h1, h2⟩ := pieces_snoc b s[k] ((bl s).take k)
    obtain ⟨e1, e2⟩ := app_one_inj (h1.symm.trans ih)
    subst e1 e2
    have hl : ((bl s).take k).length = k := by rw [List.length_take, bl_len]; omega
    rw [take_step s k hlt, h2]
    by_cases hb : s[k] = b
    · rw [split_yes hlt hb, if_pos hb]
      simp only [List.map_append, List.map_cons, List.map_nil, List.append_assoc, List.cons_append, List.nil_append]
      congr 2
      · rw [bl_extract]
        rw [List.drop_take]
      · rw [List.drop_eq_nil_of_le]; simp; omega
    · rw [split_no hlt hb, if_neg hb]
      congr 2
      rw [List.drop_append_of_le_length (by omega)]
theorem splitV_pieces (s : ByteArray) (b : UInt8) : (splitV s b).map bl = pieces b (bl s) := by
  have h := splitTo_pieces s b s.size (Nat.le_refl _)
  rw [take_all] at h
  rw [h, splitV, List.map_append, List.map_cons, List.map_nil]
  congr 2
  rw [bl_extract, List.take_of_length_le]
  simp
theorem splitB_pieces (b : UInt8) : ∀ (k : Nat) (s : ByteArray), Go.Lib.countB s ⟨#[b]⟩ = k → (Go.Lib.splitB ⟨#[b]⟩ 0 k s).map bl = pieces b (bl s) := by
  intro k
  induction k with
  | zero =>
    intro s hk
    have h1 : Go.Lib.indexB s ⟨#[b]⟩ = -1 := by
      have hge := Go.Lib.index_ge (bl s) [b]
      rcases (show Go.Lib.index (bl s) [b] = -1 ∨ 0 ≤ Go.Lib.index (bl s) [b] by omega) with h | h
      · exact h
      · obtain ⟨i, hi⟩ := Int.eq_ofNat_of_zero_le h
        have := Go.Lib.countB_hit s ⟨#[b]⟩ i (Nat.le_refl 1) hi
        omega
    have h2 := cut_one b (bl s)
    rw [Go.Lib.splitB_zero, pieces_cut]
    have h3 : Go.Lib.index (bl s) [b] = -1 := h1
    simp only [Go.Lib.cut, h3] at h2
    rw [← h2]; simp
  | succ k ih =>
    intro s hk
    have hge := Go.Lib.index_ge (bl s) [b]
    rcases (show Go.Lib.index (bl s) [b] = -1 ∨ 0 ≤ Go.Lib.index (bl s) [b] by omega) with h | h
    · have := Go.Lib.countB_miss s ⟨#[b]⟩ h
      omega
    · obtain ⟨i, hi⟩ := Int.eq_ofNat_of_zero_le h
      have hc := Go.Lib.countB_hit s ⟨#[b]⟩ i (Nat.le_refl 1) hi
      have h2 := cut_one b (bl s)
      simp only [Go.Lib.cut, hi] at h2
      rw [Go.Lib.splitB_hit _ _ _ _ i hi, List.map_cons, ih _ (by omega), pieces_cut b (bl s), ← h2]
      have e1 : bl (s.extract 0 (i + 0)) = (bl s).take i := by rw [bl_extract]; simp
      have e2 : bl (s.extract (i + (ByteArray.mk #[b]).size) s.size) = (bl s).drop (i + 1) := by
        rw [bl_extract, List.take_of_length_le]
        · rfl
        · simp
      rw [e1, e2]
      simp
theorem bl_inj {a b : List ByteArray} (h : a.map bl = b.map bl) : a = b := by
  induction a generalizing b with
  | nil => cases b with
    | nil => rfl
    | cons y q => simp at h
  | cons x r ih => cases b with
    | nil => simp at h
    | cons y q =>
      simp only [List.map_cons, List.cons.injEq] at h
      rw [ba_ext h.1, ih h.2]
theorem split_same (s : ByteArray) (b : UInt8) : Go.Lib.splitB ⟨#[b]⟩ 0 (Go.Lib.countB s ⟨#[b]⟩) s = splitV s b := by
  apply bl_inj
  rw [splitB_pieces b _ s rfl, splitV_pieces]
/-- Where there is but one piece, it is the text. -/
theorem splitV_one {s x : ByteArray} {b : UInt8} (h : splitV s b = [x]) : x = s := by
  unfold splitV at h
  cases hs : (splitTo s b s.size).1 with
  | cons y q => rw [hs] at h; simp at h
  | nil =>
    rcases split_first s b s.size (Nat.le_refl _) with ⟨h1, h2⟩ | ⟨j, r, hj, h1, h2, h3⟩
    · rw [h1] at h
      simp only [List.nil_append, List.cons.injEq, and_true] at h
      rw [← h]
      exact ba_ext (by rw [bl_extract, List.drop_zero, Nat.sub_zero, take_all])
    · rw [hs] at h1; cases h1
/-- No piece is longer than the text. -/
theorem splitV_size (s : ByteArray) (b : UInt8) : ∀ x ∈ splitV s b, x.size ≤ s.size := by
  have key : ∀ k, k ≤ s.size → ∀ x ∈ (splitTo s b k).1, x.size ≤ s.size := by
    intro k
    induction k with
    | zero => intro _ x hx; simp [splitTo] at hx
    | succ k ih =>
      intro hk x hx
      rw [splitTo] at hx
      split at hx
      · rcases List.mem_append.1 hx with hx | hx
        · exact ih (by omega) x hx
        · simp at hx; subst hx; simp; omega
      · exact ih (by omega) x hx
  intro x hx
  rcases List.mem_append.1 hx with hx | hx
  · exact key _ (Nat.le_refl _) x hx
  · simp at hx; subst hx; simp
end Go.Proofs.YtecghfcgahgfiaaGreatDoor
/- Reading a number: what both packages' ParseInt return. No program in sight. -/
namespace Go.Proofs.YtecghfcgahgfiaaGreatDoor
open Go.RowKit

/-- The number that a text spells just as it would be written. -/
def parseF (s : ByteArray) : Option Int := match Go.Lib.atoi (bl s) with
  | some n => if inB n (-999999) 999999 = true ∧ num n = s then some n else none
  | none => none
theorem parse_some {s : ByteArray} {n : Int} (h : parseF s = some n) : Go.Lib.atoi (bl s) = some n ∧ -999999 ≤ n ∧ n ≤ 999999 ∧ num n = s := by
  unfold parseF at h
  split at h
  · rename_i m hm
    split at h
    · rename_i hc
      injection h with h
      subst h
      have := hc.1
      simp only [inB, Bool.and_eq_true, decide_eq_true_eq] at this
      exact ⟨hm, this.1, this.2, hc.2⟩
    · cases h
  · cases h
theorem parse_atoi {s : ByteArray} (h : Go.Lib.atoi (bl s) = none) : parseF s = none := by
  unfold parseF; rw [h]
theorem parse_atoi_some {s : ByteArray} {n : Int} (h : Go.Lib.atoi (bl s) = some n) : parseF s = if inB n (-999999) 999999 = true ∧ num n = s then some n else none := by
  unfold parseF; rw [h]
theorem dig6 {u : Nat} (h : u ≤ 999999) : 1 ≤ (Go.Lib.decDigits u).length ∧ (Go.Lib.decDigits u).length ≤ 6 := by
  have h1 := nDigits_le 5 u (by omega)
  rw [Go.Lib.decDigits_length]
  refine ⟨?_, h1⟩
  by_cases h10 : u < 10
  · rw [Go.Lib.nDigits_small h10]; exact Nat.le_refl _
  · rw [Go.Lib.nDigits_big h10]; omega
theorem bl_num (n : Int) : bl (num n) = if n < 0 then 45 :: Go.Lib.decDigits n.natAbs else Go.Lib.decDigits n.toNat := rfl
theorem parse_shape {s : ByteArray} {n : Int} (h : parseF s = some n) : (n < 0 ∧ (bl s)[0]? = some 45 ∧ 2 ≤ s.size ∧ s.size ≤ 7) ∨ (0 ≤ n ∧ 1 ≤ s.size ∧ s.size ≤ 6 ∧ ∃ c, (bl s)[0]? = some c ∧ 48 ≤ c.toNat) := by
  obtain ⟨_, h1, h2, h3⟩ := parse_some h
  have hb : bl s = bl (num n) := by rw [h3]
  have hz : s.size = (bl (num n)).length := by rw [← hb, bl_len]
  rw [bl_num] at hb hz
  by_cases hn : n < 0
  · rw [if_pos hn] at hb hz
    have := dig6 (u := n.natAbs) (by omega)
    left
    refine ⟨hn, by rw [hb]; rfl, ?_, ?_⟩ <;> (rw [hz, List.length_cons]; omega)
  · rw [if_neg hn] at hb hz
    have := dig6 (u := n.toNat) (by omega)
    right
    refine ⟨by omega, by omega, by omega, ?_⟩
    have hl : 0 < (Go.Lib.decDigits n.toNat).length := by omega
    refine ⟨_, by rw [hb]; exact List.getElem?_eq_getElem hl, ?_⟩
    exact (digit_bytes n.toNat _ (List.getElem_mem hl)).1
theorem parse_long {s : ByteArray} (h : 7 < s.size) : parseF s = none := by
  cases hp : parseF s with
  | none => rfl
  | some n => rcases parse_shape hp with h1 | h1 <;> omega
theorem decFrom_small {l : Bytes} {m : Nat} (h : Go.Lib.decFrom 0 l = some m) (hl : l.length ≤ 6) : m ≤ 999999 := by
  have h1 := Go.Lib.decFrom_lt l 0 m h
  have h2 : 10 ^ l.length ≤ 10 ^ 6 := Nat.pow_le_pow_right (by omega) hl
  omega
/-- A text that begins with the sign. -/
theorem parse_neg {s t : ByteArray} (h : bl s = 45 :: bl t) (h1 : 1 ≤ t.size) :
    (6 < t.size → parseF s = none) ∧ (Go.Lib.decFrom 0 (bl t) = none → parseF s = none) ∧
      (∀ m : Nat, t.size ≤ 6 → Go.Lib.decFrom 0 (bl t) = some m → parseF s = if num (-(m : Int)) = s then some (-(m : Int)) else none) := by
  have hz : s.size = t.size + 1 := by rw [← bl_len s, h, List.length_cons, bl_len]
  have hne : (bl t).isEmpty = false := by
    cases hb : bl t with
    | nil => have := bl_len t; rw [hb] at this; simp at this; omega
    | cons c r => rfl
  have ha : Go.Lib.atoi (bl s) = (Go.Lib.decFrom 0 (bl t)).map fun (m : Nat) => -(m : Int) := by
    rw [h]; simp [Go.Lib.atoi, Go.Lib.decNat, hne]
  refine ⟨fun hl => ?_, fun hd => parse_atoi (by rw [ha, hd]; rfl), fun m hl hd => ?_⟩
  · cases hp : parseF s with
    | none => rfl
    | some n => rcases parse_shape hp with h2 | h2 <;> omega
  · rw [hd] at ha
    rw [parse_atoi_some ha]
    have hm := decFrom_small hd (by rw [bl_len]; exact hl)
    have hi : inB (-(m : Int)) (-999999) 999999 = true := by simp [inB]; omega
    simp [hi]
/-- A text that does not. -/
theorem parse_pos {s : ByteArray} (h : ¬ (1 < s.size ∧ (bl s)[0]? = some 45)) :
    (s.size < 1 ∨ 6 < s.size → parseF s = none) ∧ (1 ≤ s.size → Go.Lib.decFrom 0 (bl s) = none → parseF s = none) ∧
      (∀ m : Nat, 1 ≤ s.size → s.size ≤ 6 → Go.Lib.decFrom 0 (bl s) = some m → parseF s = if num (m : Int) = s then some (m : Int) else none) := by
  refine ⟨fun hl => ?_, fun h1 hd => ?_, fun m h1 hl hd => ?_⟩
  · cases hp : parseF s with
    | none => rfl
    | some n =>
      exfalso
      rcases parse_shape hp with ⟨_, h2, h3, _⟩ | h2
      · exact h ⟨by omega, h2⟩
      · omega
  · cases hp : parseF s with
    | none => rfl
    | some n =>
      exfalso
      obtain ⟨ha, _, _, _⟩ := parse_some hp
      rcases parse_shape hp with ⟨_, h2, h3, _⟩ | ⟨_, _, _, c, h2, h3⟩
      · exact h ⟨by omega, h2⟩
      · cases hb : bl s with
        | nil => rw [hb] at h2; cases h2
        | cons x r =>
          rw [hb] at h2 ha hd
          simp only [List.getElem?_cons_zero, Option.some.injEq] at h2
          subst h2
          have e1 : (x == 45) = false := by rw [beq_eq_false_iff_ne]; rintro rfl; revert h3; decide
          have e2 : (x == 43) = false := by rw [beq_eq_false_iff_ne]; rintro rfl; revert h3; decide
          simp [Go.Lib.atoi, e1, e2, Go.Lib.decNat, hd] at ha
  · have ha : Go.Lib.atoi (bl s) = some (m : Int) := by
      cases hb : bl s with
      | nil => have := bl_len s; rw [hb] at this; simp at this; omega
      | cons x r =>
        rw [hb] at hd
        obtain ⟨d, hx⟩ := Go.Lib.digit_of_decFrom _ _ _ hd 0 x rfl
        obtain ⟨h3, _, _⟩ := Go.Lib.digitVal_eq hx
        have e1 : (x == 45) = false := by rw [beq_eq_false_iff_ne]; rintro rfl; revert h3; decide
        have e2 : (x == 43) = false := by rw [beq_eq_false_iff_ne]; rintro rfl; revert h3; decide
        simp [Go.Lib.atoi, e1, e2, Go.Lib.decNat, hd]
    rw [parse_atoi_some ha]
    have hm := decFrom_small hd (by rw [bl_len]; exact hl)
    have hi : inB (m : Int) (-999999) 999999 = true := by simp [inB]; omega
    simp [hi]
end Go.Proofs.YtecghfcgahgfiaaGreatDoor
