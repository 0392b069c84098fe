/- append(out, src...): a whole list behind one of the call's own. No program in sight. -/
import Derived.Test.YtcljcbbkbepmjaaDoorMk
namespace Go.Proofs.YtcljcbbkbepmjaaDoor
open Go.RowKit

theorem flat_at {α : Type} {s : Nat} {cells : α → List Value} (hs : ∀ x, (cells x).length = s) : ∀ (l : List α) (j : Nat) (u : Value), (l.flatMap cells)[j]? = some u → ∃ i, ∃ hi : i < l.length, ∃ j', j = i * s + j' ∧ (cells l[i])[j']? = some u
  | [], j, u, h => by simp at h
  | x :: r, j, u, h => by
    rw [List.flatMap_cons] at h
    by_cases hj : j < s
    · rw [List.getElem?_append_left (by rw [hs]; exact hj)] at h
      exact ⟨0, by simp, j, by simp, h⟩
    · rw [List.getElem?_append_right (by rw [hs]; omega), hs] at h
      obtain ⟨i, hi, j', e, h'⟩ := flat_at hs r (j - s) u h
      exact ⟨i + 1, by simpa using hi, j', by rw [Nat.add_mul]; omega, h'⟩
theorem flat_len {α : Type} {s : Nat} {cells : α → List Value} (hs : ∀ x, (cells x).length = s) : ∀ l : List α, (l.flatMap cells).length = l.length * s
  | [] => by simp
  | x :: r => by rw [List.flatMap_cons, List.length_append, hs, flat_len hs r, List.length_cons, Nat.add_mul]; omega
section
variable {P : Program} {α : Type}
theorem appAll {cells : α → List Value} {B : Nat} {w : World} (ty t : TypeId)
    (e : TypeId) (s bytes : Nat) (z : Value) (ht : P.underlying t = some (.slice e)) (hinf : (P.info? e).map (fun i => (i.zero, i.size, i.bytes)) = some (some z, s, bytes)) (hzs : z.cells.size = s) (hsz : 0 < s) (hby : bytes ≤ 4096)
    (hs : ∀ x, (cells x).length = s) (h1 : ∀ x, ∀ u ∈ cells x, u.oneCell' = true)
    (A : Option Addr) (c : Nat) (l : List α) (hown : Own B e s cells w A c l) (hB : B ≤ w.heap.size) (hl : l.length ≤ 1073741824)
    (ad : Addr) (c1 : Nat) (r : List α) (hr : Sl w s cells (some ad) r) (hne : 0 < r.length) (hrl : r.length ≤ 1073741824) :
    ∃ A' c' w', (Builtin.append_ #[t, t] ty #[.slice A l.length c, .slice (some ad) r.length c1]).run P w = .ok (.slice A' (l ++ r).length c') w' ∧ Own B e s cells w' A' c' (l ++ r) ∧ w.grownBy w' (Value.slice A l.length c).ownBlock ∧
      (∀ a', A' = some a' → (∃ a0, A = some a0 ∧ a0.block = a'.block) ∨ a'.block = w.heap.size) := by
  obtain ⟨i0, hi0, hz0, hz1, hz2⟩ := info_parts hinf
  have hbytes : (l.length + r.length) * bytes ≤ 140737488355328 := by
    have := Nat.mul_le_mul (show l.length + r.length ≤ 2147483648 by omega) hby
    omega
  have hnews : ∀ j u, (r.flatMap cells)[j]? = some u → w.cell? (ad.add j) = some u := by
    intro j u hj
    obtain ⟨i, hi, j', rfl, h'⟩ := flat_at hs r j u hj
    obtain ⟨b, off, hA, _, hc⟩ := hr.at_ hi
    injection hA with hA
    subst hA
    have := hc i hi j' u h'
    have ha : (⟨b, off, none⟩ : Addr).add (i * s + j') = ⟨b, off + i * s + j', none⟩ := by unfold Addr.add; split <;> simp_all <;> omega
    rw [ha]; exact this
  have hone : ∀ u ∈ r.flatMap cells, u.oneCell' = true := by
    intro u hu
    obtain ⟨x, _, hx⟩ := List.mem_flatMap.1 hu
    exact h1 x u hx
  obtain ⟨v', w', hrun, hown', hg, _, hat⟩ := run_append_own_at (P := P) w B t ty e i0 z s bytes ht hi0 hz0 hz1 hz2 hzs hsz _ _ _ hown ad r.length c1 (r.flatMap cells) (flat_len hs r) hnews hone (by unfold maxLen; omega) hbytes hB
  have hlen : l.length + r.length = (l ++ r).length := by simp
  have hfl : l.flatMap cells ++ r.flatMap cells = (l ++ r).flatMap cells := by simp
  rw [hlen, hfl] at hown'
  rcases hown'.2 with ⟨rfl, hn⟩ | ⟨g, cap, cur, rfl, _⟩
  · rw [← hlen] at hn; omega
  · refine ⟨_, _, w', hrun, hown', hg, fun a' ha' => ?_⟩
    rcases hat with h | h
    · obtain ⟨a0, h2, h3⟩ := own_some (h.symm.trans (show (Value.slice (some ⟨g, 0, none⟩) (l ++ r).length cap).ownBlock = some g from rfl))
      injection ha' with ha'
      exact .inl ⟨a0, h2, by rw [h3, ← ha']⟩
    · injection ha' with ha'
      simp [Value.ownBlock] at h
      exact .inr (by rw [← ha']; exact h)
theorem wpList_appAll {cells : α → List Value} {B : Nat} {w : World} {ops : Array Oper} {rest : List Oper} {o : Oper} {a : Act} {Q : Exit → Act → World → Prop} (hgd : o.guard = none) (sl x : Operand) (t : TypeId)
    (ho : o.op = .call { callee := .builtin .append, args := #[sl, x], argTypes := #[t, t] })
    (e : TypeId) (s bytes : Nat) (z : Value) (ht : P.underlying t = some (.slice e)) (hinf : (P.info? e).map (fun i => (i.zero, i.size, i.bytes)) = some (some z, s, bytes)) (hzs : z.cells.size = s) (hsz : 0 < s) (hby : bytes ≤ 4096)
    (hs : ∀ x, (cells x).length = s) (h1 : ∀ x, ∀ u ∈ cells x, u.oneCell' = true)
    (A : Option Addr) (c : Nat) (l : List α) (n : Nat) (hn : n = l.length) (hsl : a.eval sl = .slice A n c) (hown : Own B e s cells w A c l) (hB : B ≤ w.heap.size) (hl : l.length ≤ 1073741824)
    (ad : Addr) (c1 : Nat) (r : List α) (hx : a.eval x = .slice (some ad) r.length c1) (hr : Sl w s cells (some ad) r) (hne : 0 < r.length) (hrl : r.length ≤ 1073741824)
    (h : ∀ A' c' w', Own B e s cells w' A' c' (l ++ r) → w.grownBy w' (Value.slice A n c).ownBlock → (∀ a', A' = some a' → (∃ a0, A = some a0 ∧ a0.block = a'.block) ∨ a'.block = w.heap.size) → wpList P ops Q rest (a.put o.dst (.slice A' (n + r.length) c')) w') :
    wpList P ops Q (o :: rest) a w := by
  subst hn
  refine wpList_plain hgd fun K hK => ?_
  obtain ⟨A', c', w', hrun, h2, h3, h4⟩ := appAll (P := P) o.type t e s bytes z ht hinf hzs hsz hby hs h1 A c l hown hB hl ad c1 r hr hne hrl
  rw [show (l ++ r).length = l.length + r.length by simp] at hrun
  unfold Oper.wp execOp
  simp only [ho, resolve, invoke, builtin, Sem.run_bind, Sem.run_pure, Result.andThen_ok, List.map_toArray, List.map_cons, List.map_nil, hsl, hx, hrun]
  exact hK _ _ (h A' c' w' h2 h3 h4)
theorem step_appAll {cells : α → List Value} {B : Nat} {w : World} {ops : Array Oper} {o : Oper} {a : Act} {K : Act → World → Prop} {Q : Exit → Act → World → Prop} {E : Prop} (hgd : o.guard = none) (sl x : Operand) (t : TypeId)
    (ho : o.op = .call { callee := .builtin .append, args := #[sl, x], argTypes := #[t, t] })
    (e : TypeId) (s bytes : Nat) (z : Value) (ht : P.underlying t = some (.slice e)) (hinf : (P.info? e).map (fun i => (i.zero, i.size, i.bytes)) = some (some z, s, bytes)) (hzs : z.cells.size = s) (hsz : 0 < s) (hby : bytes ≤ 4096)
    (hs : ∀ x, (cells x).length = s) (h1 : ∀ x, ∀ u ∈ cells x, u.oneCell' = true)
    (A : Option Addr) (c : Nat) (l : List α) (n : Nat) (hn : n = l.length) (hsl : a.eval sl = .slice A n c) (hown : Own B e s cells w A c l) (hB : B ≤ w.heap.size) (hl : l.length ≤ 1073741824)
    (ad : Addr) (c1 : Nat) (r : List α) (hx : a.eval x = .slice (some ad) r.length c1) (hr : Sl w s cells (some ad) r) (hne : 0 < r.length) (hrl : r.length ≤ 1073741824)
    (h : ∀ A' c' w', Own B e s cells w' A' c' (l ++ r) → w.grownBy w' (Value.slice A n c).ownBlock → (∀ a', A' = some a' → (∃ a0, A = some a0 ∧ a0.block = a'.block) ∨ a'.block = w.heap.size) → K (a.put o.dst (.slice A' (n + r.length) c')) w') :
    if Region.wanted o (yielded ops a.tmps) = true then Oper.wp P o a w K Q else E := by
  subst hn
  have hw : Region.wanted o (yielded ops a.tmps) = true := by simp [Region.wanted, hgd]
  rw [if_pos hw]
  obtain ⟨A', c', w', hrun, h2, h3, h4⟩ := appAll (P := P) o.type t e s bytes z ht hinf hzs hsz hby hs h1 A c l hown hB hl ad c1 r hr hne hrl
  rw [show (l ++ r).length = l.length + r.length by simp] at hrun
  unfold Oper.wp execOp
  simp only [ho, resolve, invoke, builtin, Sem.run_bind, Sem.run_pure, Result.andThen_ok, List.map_toArray, List.map_cons, List.map_nil, hsl, hx, hrun]
  exact h A' c' w' h2 h3 h4
end
end Go.Proofs.YtcljcbbkbepmjaaDoor
