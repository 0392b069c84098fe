/- Lists of the call's own that grow by append, one element at a time. No program in sight. -/
import Derived.Test.YtjlaidjogladaaaDoorMem
import Derived.Maps.AppendAt
import Derived.OwnWalk
import Derived.RegionTactic
namespace Go.Proofs.YtjlaidjogladaaaDoor
open Go.RowKit

/-- The slice at A, of capacity c, holds l in a row of its own among the blocks from B on. -/
def Own {α : Type} (B : Nat) (e : TypeId) (s : Nat) (cells : α → List Value) (w : World) (A : Option Addr) (c : Nat) (l : List α) : Prop :=
  w.ownsRow B e s (.slice A l.length c) l.length (l.flatMap cells)
section
variable {α : Type} {B : Nat} {e : TypeId} {s : Nat} {cells : α → List Value} {w w' : World} {A : Option Addr} {c : Nat} {l : List α}
theorem Own.grew (h : Own B e s cells w A c l) (hg : ∃ g, w' = plus w g) : Own B e s cells w' A c l := by
  obtain ⟨g, rfl⟩ := hg
  refine h.kept (row := none) ⟨rfl, rfl, rfl, by simp [plus], fun k hk _ => block_plus w g k hk⟩ ?_
  cases hv : (Value.slice A l.length c).ownBlock <;> simp
theorem Own.less {B' : Nat} (h : Own B e s cells w A c l) (hB : B' ≤ B) : Own B' e s cells w A c l := by
  refine ⟨h.1, ?_⟩
  rcases h.2 with h1 | ⟨g, cap, cur, hv, hb, r⟩
  · exact .inl h1
  · exact .inr ⟨g, cap, cur, hv, by omega, r⟩
theorem Own.nil (B : Nat) (e : TypeId) (s : Nat) (cells : α → List Value) (w : World) : Own B e s cells w none 0 [] := ⟨by simp, .inl ⟨rfl, rfl⟩⟩
theorem Own.new {o : Obj} {b : Nat} (ho : o = .cells #[] e (0, 0)) (hb : b = w.heap.size) (hB : B ≤ w.heap.size) : Own B e s cells (w.alloc o) (some ⟨b, 0, none⟩) 0 ([] : List α) := by
  subst ho hb
  exact ⟨by simp, .inr ⟨w.heap.size, 0, #[], rfl, hB, heap_alloc_new w _, by simp, by simp, by simp, by simp⟩⟩
theorem Own.newIn {o : Obj} {b : Nat} (hg : ∃ g, w' = plus (w.alloc o) g) (ho : o = .cells #[] e (0, 0)) (hb : b = w.heap.size) (hB : B ≤ w.heap.size) : Own B e s cells w' (some ⟨b, 0, none⟩) 0 ([] : List α) := (Own.new ho hb hB).grew hg
theorem flat_get (hs : ∀ x, (cells x).length = s) : ∀ (l : List α) (i : Nat) (hi : i < l.length) (j : Nat) (u : Value), (cells l[i])[j]? = some u → (l.flatMap cells)[i * s + j]? = some u
  | x :: r, 0, _, j, u, hu => by
    simp only [List.getElem_cons_zero] at hu
    have hj := (List.getElem?_eq_some_iff.1 hu).1
    rw [List.flatMap_cons, List.getElem?_append_left (by omega), show 0 * s + j = j by omega]
    exact hu
  | x :: r, i + 1, hi, j, u, hu => by
    simp only [List.getElem_cons_succ] at hu
    rw [List.flatMap_cons, List.getElem?_append_right (by rw [hs]; have : (i + 1) * s = i * s + s := by rw [Nat.add_mul]; omega
                                                          omega), hs, show (i + 1) * s + j - s = i * s + j by rw [Nat.add_mul]; omega]
    exact flat_get hs r i (by simpa using hi) j u hu
theorem Own.sl (h : Own B e s cells w A c l) (hs : ∀ x, (cells x).length = s) : Sl w s cells A l := by
  rcases h.2 with ⟨h1, h2⟩ | ⟨g, cap, cur, hv, hb, hh, hn, hm, hc, ht⟩
  · exact .inl (List.eq_nil_of_length_eq_zero h2)
  · injection hv with hA
    subst hA
    refine .inr ⟨g, 0, rfl, (Array.getElem?_eq_some_iff.1 hh).1, fun i hi j u hu => ?_⟩
    rw [cell_of_row w g _ cur e (0, 0) hh]
    have h1 := flat_get hs l i hi j u hu
    rw [← ht, List.getElem?_take] at h1
    split at h1
    · rw [show 0 + i * s + j = i * s + j by omega]; simpa using h1
    · cases h1
/-- Where it lies: behind B, or nowhere. -/
theorem Own.far (h : Own B e s cells w A c l) : A = none ∧ l = [] ∨ ∃ g, A = some ⟨g, 0, none⟩ ∧ B ≤ g ∧ g < w.heap.size := by
  rcases h.2 with ⟨h1, h2⟩ | ⟨g, cap, cur, hv, hb, hh, hn, hm, hc, ht⟩
  · injection h1 with h1
    exact .inl ⟨h1, List.eq_nil_of_length_eq_zero h2⟩
  · injection hv with hA
    exact .inr ⟨g, hA, hb, (Array.getElem?_eq_some_iff.1 hh).1⟩
end

theorem grew_split {w W : World} {a b : Ext} (h : ∃ g, plus w a = plus W g) : ∃ g, plus w (a.add b) = plus W g := by
  obtain ⟨g, hg⟩ := h
  exact ⟨g.add b, by rw [← plus_plus, hg, plus_plus]⟩
theorem grew_mk {w W : World} {a : Ext} {n : Nat} (h : ∃ g, plus w a = plus W g) : ∃ g, plus w ⟨a.objs, n + 1⟩ = plus W g := by
  obtain ⟨g, hg⟩ := h
  refine ⟨⟨g.objs, n + 1⟩, ?_⟩
  have e1 : plus w ⟨a.objs, n + 1⟩ = { plus w a with drawn := n + 1 } := rfl
  rw [e1, hg]; rfl
theorem vsl {A : Option Addr} {n m c : Nat} (h : n = m) : Value.slice A n c = Value.slice A m c := by rw [h]
theorem ret_sb {A : Option Addr} {n m c : Nat} {a b : Bool} (h : n = m) (h' : a = b) : Ending.returned (.tuple #[.slice A n c, .bool a]) = .returned (.tuple #[.slice A m c, .bool b]) := by rw [h, h']
theorem grew_grown {w0 w w' : World} {row : Option Nat} (h : ∃ g, w = plus w0 g) (hg : w.grownBy w' row) (hr : ∀ k, row = some k → w0.heap.size ≤ k) : ∃ g, w' = plus w0 g :=
  plus_of_below ((below_of_grew h).grown hg (below_of_grew h).size hr)

section
variable {P : Program} {α : Type}
/-- append(out, x) of one element, the element lying in a box. -/
theorem wpList_app {cells : α → List Value} {w0 w : World} {ops : Array Oper} {rest : List Oper} {o : Oper} {a : Act} {Q : Exit → Act → World → Prop} (hgd : o.guard = none) (sl x : Operand) (t : TypeId)
    (ho : o.op = .call { callee := .builtin .append, args := #[sl, x], argTypes := #[t, t] })
    (e : TypeId) (s bytes : Nat) (z : Value) (ht : P.underlying t = some (.slice e)) (hinf : (P.info? e).map (fun i => (i.zero, i.size, i.bytes)) = some (some z, s, bytes)) (hzs : z.cells.size = s) (hsz : 0 < s) (hby : bytes ≤ 4096)
    (A : Option Addr) (c : Nat) (l : List α) (hs : a.eval sl = .slice A l.length c) (hown : Own w0.heap.size e s cells w A c l) (hw : ∃ g, w = plus w0 g) (hl : l.length ≤ 1073741824)
    (ad : Addr) (y : α) (c1 : Nat) (hx : a.eval x = .slice (some ad) 1 c1) (hcl : (cells y).length = s) (hnews : ∀ j u, (cells y)[j]? = some u → w.cell? (ad.add j) = some u) (h1 : ∀ u ∈ cells y, u.oneCell' = true)
    (h : ∀ A' c' g', Own w0.heap.size e s cells (plus w0 g') A' c' (l ++ [y]) → wpList P ops Q rest (a.put o.dst (.slice A' (l ++ [y]).length c')) (plus w0 g')) :
    wpList P ops Q (o :: rest) a w := by
  obtain ⟨i0, hi0, hz0, hz1, hz2⟩ := info_parts hinf
  have hbw := (below_of_grew hw).size
  have hbytes : (l.length + 1) * bytes ≤ 140737488355328 := by
    have := Nat.mul_le_mul (show l.length + 1 ≤ 1073741825 by omega) hby
    omega
  refine wpList_append_own_at w hgd sl x t ho w0.heap.size e i0 z s bytes ht hi0 hz0 hz1 hz2 hzs hsz _ _ _ hs hown ad 1 c1 (cells y) hx (by omega) hnews h1 (by unfold maxLen; omega) hbytes hbw fun v' w' hown' hg _ hat => ?_
  have hfar : ∀ k, (Value.slice A l.length c).ownBlock = some k → w0.heap.size ≤ k := by
    intro k hk
    rcases hown.far with ⟨rfl, rfl⟩ | ⟨g, rfl, hb, _⟩
    · simp [Value.ownBlock] at hk
    · simp [Value.ownBlock] at hk; omega
  obtain ⟨g', rfl⟩ := grew_grown hw hg hfar
  have hlen : l.length + 1 = (l ++ [y]).length := by simp
  have hfl : l.flatMap cells ++ cells y = (l ++ [y]).flatMap cells := by simp
  rw [hlen, hfl] at hown'
  rcases hown'.2 with ⟨rfl, hn⟩ | ⟨g, cap, cur, rfl, _⟩
  · simp at hn
  · exact h _ _ _ hown'
theorem own_some {A : Option Addr} {n c k : Nat} (h : (Value.slice A n c).ownBlock = some k) : ∃ ad, A = some ad ∧ ad.block = k := by
  cases A with
  | none => simp [Value.ownBlock] at h
  | some ad => exact ⟨ad, rfl, by simpa [Value.ownBlock] using h⟩
/-- append(out, x) of one element in a world of which more is to be kept: which block has been written, and where the new list lies. -/
theorem appB {cells : α → List Value} {B : Nat} {w : World} (ty t : TypeId)
    (e : TypeId) (s bytes : Nat) (z : Value) (ht : P.underlying t = some (.slice e)) (hinf : (P.info? e).map (fun i => (i.zero, i.size, i.bytes)) = some (some z, s, bytes)) (hzs : z.cells.size = s) (hsz : 0 < s) (hby : bytes ≤ 4096)
    (A : Option Addr) (c : Nat) (l : List α) (hown : Own B e s cells w A c l) (hB : B ≤ w.heap.size) (hl : l.length ≤ 1073741824)
    (ad : Addr) (y : α) (c1 : Nat) (hcl : (cells y).length = s) (hnews : ∀ j u, (cells y)[j]? = some u → w.cell? (ad.add j) = some u) (h1 : ∀ u ∈ cells y, u.oneCell' = true) :
    ∃ A' c' w', (Builtin.append_ #[t, t] ty #[.slice A l.length c, .slice (some ad) 1 c1]).run P w = .ok (.slice A' (l ++ [y]).length c') w' ∧ Own B e s cells w' A' c' (l ++ [y]) ∧ w.grownBy w' (Value.slice A l.length c).ownBlock ∧
      (∀ a', A' = some a' → (∃ a0, A = some a0 ∧ a0.block = a'.block) ∨ a'.block = w.heap.size) := by
  obtain ⟨i0, hi0, hz0, hz1, hz2⟩ := info_parts hinf
  have hbytes : (l.length + 1) * bytes ≤ 140737488355328 := by
    have := Nat.mul_le_mul (show l.length + 1 ≤ 1073741825 by omega) hby
    omega
  obtain ⟨v', w', hr, hown', hg, _, hat⟩ := run_append_own_at (P := P) w B t ty e i0 z s bytes ht hi0 hz0 hz1 hz2 hzs hsz _ _ _ hown ad 1 c1 (cells y) (by omega) hnews h1 (by unfold maxLen; omega) hbytes hB
  have hlen : l.length + 1 = (l ++ [y]).length := by simp
  have hfl : l.flatMap cells ++ cells y = (l ++ [y]).flatMap cells := by simp
  rw [hlen, hfl] at hown'
  rcases hown'.2 with ⟨rfl, hn⟩ | ⟨g, cap, cur, rfl, _⟩
  · simp at hn
  · refine ⟨_, _, w', hr, hown', hg, fun a' ha' => ?_⟩
    rcases hat with h | h
    · obtain ⟨a0, h2, h3⟩ := own_some (h.symm.trans (show (Value.slice (some ⟨g, 0, none⟩) (l ++ [y]).length cap).ownBlock = some g from rfl))
      injection ha' with ha'
      exact .inl ⟨a0, h2, by rw [h3, ← ha']⟩
    · injection ha' with ha'
      simp [Value.ownBlock] at h
      exact .inr (by rw [← ha']; exact h)
theorem wpList_appB {cells : α → List Value} {B : Nat} {w : World} {ops : Array Oper} {rest : List Oper} {o : Oper} {a : Act} {Q : Exit → Act → World → Prop} (hgd : o.guard = none) (sl x : Operand) (t : TypeId)
    (ho : o.op = .call { callee := .builtin .append, args := #[sl, x], argTypes := #[t, t] })
    (e : TypeId) (s bytes : Nat) (z : Value) (ht : P.underlying t = some (.slice e)) (hinf : (P.info? e).map (fun i => (i.zero, i.size, i.bytes)) = some (some z, s, bytes)) (hzs : z.cells.size = s) (hsz : 0 < s) (hby : bytes ≤ 4096)
    (A : Option Addr) (c : Nat) (l : List α) (n : Nat) (hn : n = l.length) (hs : a.eval sl = .slice A n c) (hown : Own B e s cells w A c l) (hB : B ≤ w.heap.size) (hl : l.length ≤ 1073741824)
    (ad : Addr) (y : α) (c1 : Nat) (hx : a.eval x = .slice (some ad) 1 c1) (hcl : (cells y).length = s) (hnews : ∀ j u, (cells y)[j]? = some u → w.cell? (ad.add j) = some u) (h1 : ∀ u ∈ cells y, u.oneCell' = true)
    (h : ∀ A' c' w', Own B e s cells w' A' c' (l ++ [y]) → w.grownBy w' (Value.slice A n c).ownBlock → (∀ a', A' = some a' → (∃ a0, A = some a0 ∧ a0.block = a'.block) ∨ a'.block = w.heap.size) → wpList P ops Q rest (a.put o.dst (.slice A' (n + 1) c')) w') :
    wpList P ops Q (o :: rest) a w := by
  subst hn
  refine wpList_plain hgd fun K hK => ?_
  obtain ⟨A', c', w', hr, h2, h3, h4⟩ := appB (P := P) o.type t e s bytes z ht hinf hzs hsz hby A c l hown hB hl ad y c1 hcl hnews h1
  rw [show (l ++ [y]).length = l.length + 1 by simp] at hr
  unfold Oper.wp execOp
  simp only [ho, resolve, invoke, builtin, Sem.run_bind, Sem.run_pure, Result.andThen_ok, List.map_toArray, List.map_cons, List.map_nil, hs, hx, hr]
  exact hK _ _ (h A' c' w' h2 h3 h4)
theorem step_appB {cells : α → List Value} {B : Nat} {w : World} {ops : Array Oper} {o : Oper} {a : Act} {K : Act → World → Prop} {Q : Exit → Act → World → Prop} {E : Prop} (hgd : o.guard = none) (sl x : Operand) (t : TypeId)
    (ho : o.op = .call { callee := .builtin .append, args := #[sl, x], argTypes := #[t, t] })
    (e : TypeId) (s bytes : Nat) (z : Value) (ht : P.underlying t = some (.slice e)) (hinf : (P.info? e).map (fun i => (i.zero, i.size, i.bytes)) = some (some z, s, bytes)) (hzs : z.cells.size = s) (hsz : 0 < s) (hby : bytes ≤ 4096)
    (A : Option Addr) (c : Nat) (l : List α) (n : Nat) (hn : n = l.length) (hs : a.eval sl = .slice A n c) (hown : Own B e s cells w A c l) (hB : B ≤ w.heap.size) (hl : l.length ≤ 1073741824)
    (ad : Addr) (y : α) (c1 : Nat) (hx : a.eval x = .slice (some ad) 1 c1) (hcl : (cells y).length = s) (hnews : ∀ j u, (cells y)[j]? = some u → w.cell? (ad.add j) = some u) (h1 : ∀ u ∈ cells y, u.oneCell' = true)
    (h : ∀ A' c' w', Own B e s cells w' A' c' (l ++ [y]) → w.grownBy w' (Value.slice A n c).ownBlock → (∀ a', A' = some a' → (∃ a0, A = some a0 ∧ a0.block = a'.block) ∨ a'.block = w.heap.size) → K (a.put o.dst (.slice A' (n + 1) c')) w') :
    if Region.wanted o (yielded ops a.tmps) = true then Oper.wp P o a w K Q else E := by
  subst hn
  have hw : Region.wanted o (yielded ops a.tmps) = true := by simp [Region.wanted, hgd]
  rw [if_pos hw]
  obtain ⟨A', c', w', hr, h2, h3, h4⟩ := appB (P := P) o.type t e s bytes z ht hinf hzs hsz hby A c l hown hB hl ad y c1 hcl hnews h1
  rw [show (l ++ [y]).length = l.length + 1 by simp] at hr
  unfold Oper.wp execOp
  simp only [ho, resolve, invoke, builtin, Sem.run_bind, Sem.run_pure, Result.andThen_ok, List.map_toArray, List.map_cons, List.map_nil, hs, hx, hr]
  exact h A' c' w' h2 h3 h4
end
end Go.Proofs.YtjlaidjogladaaaDoor
