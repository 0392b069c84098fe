/- Whole lists appended to a list of the call's own; clear. No program in sight. -/
import Derived.Test.YtjlaidjogladaaaDoorMk
import Derived.Deep.RegionLaw
import Derived.Lib.SliceRun
namespace Go.Proofs.YtjlaidjogladaaaDoor
open Go.RowKit

theorem Blk.setCells {g : Nat} {t : TypeId} (us : List Value) : ∀ {w : World} {cs : Array Value} (o : Nat), Blk w g t cs → Blk (w.setCells g o us) g t (put cs o us) := by
  induction us with
  | nil => intro w cs o h; exact h
  | cons u r ih => intro w cs o h; exact ih (o + 1) (h.set_ o u)
theorem grown_setCells {w : World} {g : Nat} (us : List Value) : ∀ {w' : World} (o : Nat), w.grownBy w' (some g) → w.grownBy (w'.setCells g o us) (some g) := by
  induction us with
  | nil => intro w' o h; exact h
  | cons u r ih => intro w' o h; exact ih (o + 1) (grown_set h)
/-- 'clear(s)' of one element of several cells. -/
theorem run_clear_one {P : Program} (w : World) (t e ty : TypeId) (z : Value) (zs : List Value) (ht : P.underlying t = some (.slice e)) (hv : ∀ w, (zeroValue e).run P w = .ok z w) (hz : (Builtin.zeroCells z.cells 1).toList = zs) (h1 : ∀ u ∈ zs, u.oneCell' = true) (b o c : Nat)
    (hc : ∀ j, j < zs.length → (w.cell? ⟨b, o + j, none⟩).isSome = true) (hf : ∀ j, j < zs.length → w.frozen? ⟨b, o + j, none⟩ = false) :
    (Builtin.clear_ #[t] ty #[.slice (some ⟨b, o, none⟩) 1 c]).run P w = .ok (.tuple #[]) (w.setCells b o zs) := by
  have hst := run_storeCells_cells (P := P) b o zs 0 w (by simpa using hc) (by simpa using hf) h1
  simp only [Nat.add_zero] at hst
  simp [Builtin.clear_, run_underlying ht, hv, hz, hst]
theorem flat_lenA {α : Type} {cells : α → List Value} {s : Nat} (hs : ∀ x, (cells x).length = s) : ∀ l : List α, (l.flatMap cells).length = l.length * s
  | [] => by simp
  | x :: r => by rw [List.flatMap_cons, List.length_append, hs, flat_lenA hs r, List.length_cons, Nat.add_mul]; omega
theorem flat_atA {α : Type} {cells : α → List Value} {s : Nat} (hs : ∀ x, (cells x).length = s) (h0 : 0 < s) {l : List α} {j : Nat} {u : Value} (h : (l.flatMap cells)[j]? = some u) : ∃ hi : j / s < l.length, (cells l[j / s])[j % s]? = some u := by
  have hj := (List.getElem?_eq_some_iff.1 h).1
  rw [flat_lenA hs] at hj
  have hi : j / s < l.length := (Nat.div_lt_iff_lt_mul h0).2 hj
  refine ⟨hi, ?_⟩
  have hm := Nat.mod_lt j h0
  have hu : (cells l[j / s])[j % s]? = some ((cells l[j / s])[j % s]'(by rw [hs]; exact hm)) := List.getElem?_eq_getElem _
  have h2 := flat_get hs l (j / s) hi (j % s) _ hu
  rw [show j / s * s + j % s = j by rw [Nat.mul_comm]; exact Nat.div_add_mod j s, h] at h2
  rw [hu]; injection h2 with h2; rw [h2]
/-- A list that a slice reads as, as the cells of an append's source. -/
theorem sl_news {α : Type} {w : World} {cells : α → List Value} {s : Nat} (hs : ∀ x, (cells x).length = s) (h0 : 0 < s) {b off : Nat} {l : List α} (hc : ∀ i (hi : i < l.length) j u, (cells l[i])[j]? = some u → w.cell? ⟨b, off + i * s + j, none⟩ = some u) :
    ∀ j u, (l.flatMap cells)[j]? = some u → w.cell? ((⟨b, off, none⟩ : Addr).add j) = some u := by
  intro j u hu
  obtain ⟨hi, h⟩ := flat_atA hs h0 hu
  have h2 := hc _ hi _ _ h
  rw [show off + j / s * s + j % s = off + j by have := Nat.div_add_mod j s; rw [Nat.mul_comm] at this; omega] at h2
  have ha : (⟨b, off, none⟩ : Addr).add j = ⟨b, off + j, none⟩ := by unfold Addr.add; split <;> simp_all
  rw [ha]; exact h2
theorem flat_one {α : Type} {cells : α → List Value} (h : ∀ x, ∀ u ∈ cells x, u.oneCell' = true) (l : List α) : ∀ u ∈ l.flatMap cells, u.oneCell' = true := by
  intro u hu
  obtain ⟨x, _, hx⟩ := List.mem_flatMap.1 hu
  exact h x u hx
theorem opq_wp {P : Program} {c : Code} {Q : Exit → Act → World → Prop} {a : Act} {W : World} (F : World → Prop) (hF : F W) (h : ∀ wr, F wr → Code.wp P c Q a wr) : Code.wp P c Q a W := h W hF
theorem opq_calls {P : Program} {f : FuncId} {args : Array Value} {W : World} {R : Ending → World → Prop} (F : World → Prop) (hF : F W) (h : ∀ wr, F wr → Calls P f args wr R) : Calls P f args W R := h W hF
theorem opq_exit {K : Act → World → Prop} {Q : Exit → Act → World → Prop} {a : Act} {W : World} (F : World → Prop) (hF : F W) (h : ∀ wr, F wr → Exit.then K Q .normal a wr) : Exit.then K Q .normal a W := h W hF
theorem opq_list {P : Program} {ops : Array Oper} {rest : List Oper} {a : Act} {Q : Exit → Act → World → Prop} {W : World} (F : World → Prop) (hF : F W) (h : ∀ wr, F wr → wpList P ops Q rest a wr) : wpList P ops Q rest a W := h W hF
theorem grew_two' {a b c : World} (h1 : ∃ g, b = plus a g) (h2 : ∃ g, c = plus b g) : ∃ g, c = plus a g := by
  obtain ⟨_, rfl⟩ := h1; obtain ⟨_, rfl⟩ := h2; exact ⟨_, plus_plus _ _ _⟩
theorem blk_drew {w : World} {g : Nat} {t : TypeId} {cs : Array Value} (h : Blk w g t cs) : Blk w.drew g t cs := h
theorem Own.less' {α : Type} {B B' : Nat} {e : TypeId} {s : Nat} {cells : α → List Value} {w : World} {A : Option Addr} {c : Nat} {l : List α} (h : Own B e s cells w A c l) (hB : B' ≤ B) : Own B' e s cells w A c l := h.less hB
/-- Lists of elements of different types lie apart. -/
theorem blk_keptD {β : Type} {B' : Nat} {e' : TypeId} {s' : Nat} {cells' : β → List Value} {w w' : World} {g : Nat} {t : TypeId} {cs : Array Value} {A' : Option Addr} {c' n d : Nat} {l' : List β} (h : Blk w g t cs) (h2 : Own B' e' s' cells' w A' c' l') (hne : t ≠ e') (hg : w.grownBy w' (Value.slice A' n d).ownBlock) : Blk w' g t cs := by
  refine h.grown hg fun hk => ?_
  obtain ⟨a2, e3, e4⟩ := own_some hk.symm
  rcases h2.2 with ⟨r1, _⟩ | ⟨g', cap', cur', r1, _, r2, _⟩
  · injection r1 with r1; rw [r1] at e3; cases e3
  · injection r1 with r1
    rw [r1] at e3
    injection e3 with e3
    subst e3
    simp only at e4
    subst e4
    unfold Blk at h
    rw [r2] at h
    injection h with h
    injection h with _ h
    exact hne h.symm
theorem Own.keptD {α β : Type} {B B' : Nat} {e e' : TypeId} {s s' : Nat} {cells : α → List Value} {cells' : β → List Value} {w w' : World} {A A' : Option Addr} {c c' n d : Nat} {l : List α} {l' : List β} (h : Own B e s cells w A c l) (h2 : Own B' e' s' cells' w A' c' l') (hne : e ≠ e') (hg : w.grownBy w' (Value.slice A' n d).ownBlock) : Own B e s cells w' A c l := by
  rcases h.2 with h1 | ⟨g, cap, cur, q1, q2, q3, q4⟩
  · exact ⟨h.1, .inl h1⟩
  · exact ⟨h.1, .inr ⟨g, cap, cur, q1, q2, blk_keptD q3 h2 hne hg, q4⟩⟩
theorem Own.open1 {α : Type} {B : Nat} {e : TypeId} {s : Nat} {cells : α → List Value} {w : World} {g c : Nat} {l : List α} (h : Own B e s cells w (some ⟨g, 0, none⟩) c l) (hs : ∀ x, (cells x).length = s) :
    ∃ cur, B ≤ g ∧ Blk w g e cur ∧ l.length ≤ c ∧ c ≤ maxLen ∧ cur.size = c * s ∧ Filled cur s cells l l.length := by
  rcases h.2 with ⟨h1, h2⟩ | ⟨g', cap, cur, hv, hb, hh, hn, hm, hc, ht⟩
  · injection h1 with h1; cases h1
  · injection hv with hA _ hC
    injection hA with hA
    injection hA with hA
    subst hA hC
    refine ⟨cur, hb, hh, hn, hm, hc, fun i hi _ j u hu => ?_⟩
    have h1 := flat_get hs l i hi j u hu
    rw [← ht, List.getElem?_take] at h1
    split at h1
    · simpa using h1
    · cases h1
/-- A list of the call's own, its block laid open. -/
theorem Own.open_ {α : Type} {B : Nat} {e : TypeId} {s : Nat} {cells : α → List Value} {w : World} {A : Option Addr} {c : Nat} {l : List α} (h : Own B e s cells w A c l) (hs : ∀ x, (cells x).length = s) (hl : 0 < l.length) :
    ∃ g cur, A = some ⟨g, 0, none⟩ ∧ B ≤ g ∧ Blk w g e cur ∧ l.length ≤ c ∧ c ≤ maxLen ∧ cur.size = c * s ∧ Filled cur s cells l l.length := by
  rcases h.2 with ⟨h1, h2⟩ | ⟨g, cap, cur, hv, hb, hh, hn, hm, hc, ht⟩
  · omega
  · injection hv with hA _ hC
    subst hA hC
    refine ⟨g, cur, rfl, hb, hh, hn, hm, hc, fun i hi _ j u hu => ?_⟩
    have h1 := flat_get hs l i hi j u hu
    rw [← ht, List.getElem?_take] at h1
    split at h1
    · simpa using h1
    · cases h1
theorem Sl.read {α : Type} {w : World} {s b off : Nat} {cells : α → List Value} {l : List α} (h : Sl w s cells (some ⟨b, off, none⟩) l) : ∀ i (hi : i < l.length) j u, (cells l[i])[j]? = some u → w.cell? ⟨b, off + i * s + j, none⟩ = some u := by
  intro i hi j u hu
  rcases h with rfl | ⟨b', off', hA, _, hc⟩
  · simp at hi
  · injection hA with hA
    injection hA with h1 h2
    subst h1 h2
    exact hc i hi j u hu
/-- An element of a filled array set anew. -/
theorem Filled.set_ {α : Type} {cs : Array Value} {s : Nat} {cells : α → List Value} {l : List α} {i : Nat} {r : α} (h : Filled cs s cells l l.length) (hs : ∀ x, (cells x).length = s) (hz : l.length * s ≤ cs.size) :
    Filled (put cs (i * s) (cells r)) s cells (l.set i r) (l.set i r).length := by
  intro k hk _ j u hu
  have hk' : k < l.length := by simpa using hk
  have hj : j < s := by
    have := (List.getElem?_eq_some_iff.1 hu).1
    rwa [hs] at this
  by_cases hki : k = i
  · subst hki
    rw [List.getElem_set_self] at hu
    refine put_at _ _ _ _ _ hu ?_
    have : (k + 1) * s ≤ l.length * s := Nat.mul_le_mul_right _ hk'
    rw [Nat.add_mul] at this; omega
  · rw [List.getElem_set_ne (by omega)] at hu
    have h1 := h k hk' hk' j u hu
    rcases Nat.lt_or_ge k i with hlt | hge
    · rw [put_below]
      · exact h1
      · have : (k + 1) * s ≤ i * s := Nat.mul_le_mul_right _ hlt
        rw [Nat.add_mul] at this; omega
    · rw [put_beyond]
      · exact h1
      · rw [hs]
        have : (i + 1) * s ≤ k * s := Nat.mul_le_mul_right _ (by omega)
        rw [Nat.add_mul] at this; omega
section
variable {P : Program} {α : Type}
/-- append(out, ys...) of a whole list. -/
theorem appL {cells : α → List Value} {B : Nat} {w : World} (ty t : TypeId)
    (e : TypeId) (s bytes : Nat) (z : Value) (ht : P.underlying t = some (.slice e)) (hinf : (P.info? e).map (fun i => (i.zero, i.size, i.bytes)) = some (some z, s, bytes)) (hzs : z.cells.size = s) (hsz : 0 < s) (hby : bytes ≤ 4096) (hcl : ∀ x, (cells x).length = s) (h1 : ∀ x, ∀ u ∈ cells x, u.oneCell' = true)
    (A : Option Addr) (c : Nat) (l : List α) (hown : Own B e s cells w A c l) (hB : B ≤ w.heap.size) (ys : List α) (hl : l.length + ys.length ≤ 1073741824)
    (b off : Nat) (c1 : Nat) (hnews : ∀ i (hi : i < ys.length) j u, (cells ys[i])[j]? = some u → w.cell? ⟨b, off + i * s + j, none⟩ = some u) :
    ∃ A' c' w', (Builtin.append_ #[t, t] ty #[.slice A l.length c, .slice (some ⟨b, off, none⟩) ys.length c1]).run P w = .ok (.slice A' (l ++ ys).length c') w' ∧ Own B e s cells w' A' c' (l ++ ys) ∧ w.grownBy w' (Value.slice A l.length c).ownBlock ∧
      (∀ a', A' = some a' → (∃ a0, A = some a0 ∧ a0.block = a'.block) ∨ a'.block = w.heap.size) := by
  obtain ⟨i0, hi0, hz0, hz1, hz2⟩ := info_parts hinf
  have hbytes : (l.length + ys.length) * bytes ≤ 140737488355328 := by
    have := Nat.mul_le_mul (show l.length + ys.length ≤ 1073741825 by omega) hby
    omega
  obtain ⟨v', w', hr, hown', hg, _, hat⟩ := run_append_own_at (P := P) w B t ty e i0 z s bytes ht hi0 hz0 hz1 hz2 hzs hsz _ _ _ hown ⟨b, off, none⟩ ys.length c1 (ys.flatMap cells) (flat_lenA hcl ys) (sl_news hcl hsz hnews) (flat_one h1 ys) (by unfold maxLen; omega) hbytes hB
  have hlen : l.length + ys.length = (l ++ ys).length := by simp
  have hfl : l.flatMap cells ++ ys.flatMap cells = (l ++ ys).flatMap cells := by simp
  rw [hlen, hfl] at hown'
  have main : ∀ A' c', v' = .slice A' (l ++ ys).length c' → ∃ A' c' w', (Builtin.append_ #[t, t] ty #[.slice A l.length c, .slice (some ⟨b, off, none⟩) ys.length c1]).run P w = .ok (.slice A' (l ++ ys).length c') w' ∧ Own B e s cells w' A' c' (l ++ ys) ∧ w.grownBy w' (Value.slice A l.length c).ownBlock ∧
      (∀ a', A' = some a' → (∃ a0, A = some a0 ∧ a0.block = a'.block) ∨ a'.block = w.heap.size) := by
    intro A' c' hv
    subst hv
    refine ⟨_, _, w', hr, hown', hg, fun a' ha' => ?_⟩
    subst ha'
    rcases hat with h | h
    · obtain ⟨a0, h2, h3⟩ := own_some (h.symm.trans (show (Value.slice (some a') (l ++ ys).length c').ownBlock = some a'.block from rfl))
      exact .inl ⟨a0, h2, h3⟩
    · simp [Value.ownBlock] at h
      exact .inr h
  rcases hown'.2 with ⟨h1, hn⟩ | ⟨g, cap, cur, h1, _⟩
  · refine main none 0 ?_
    rw [h1, hn]
  · exact main _ _ h1
theorem wpList_appL {cells : α → List Value} {B : Nat} {w : World} {ops : Array Oper} {rest : List Oper} {o : Oper} {a : Act} {Q : Exit → Act → World → Prop} (hgd : o.guard = none) (sl x : Operand) (t : TypeId)
    (ho : o.op = .call { callee := .builtin .append, args := #[sl, x], argTypes := #[t, t] })
    (e : TypeId) (s bytes : Nat) (z : Value) (ht : P.underlying t = some (.slice e)) (hinf : (P.info? e).map (fun i => (i.zero, i.size, i.bytes)) = some (some z, s, bytes)) (hzs : z.cells.size = s) (hsz : 0 < s) (hby : bytes ≤ 4096) (hcl : ∀ x, (cells x).length = s) (h1 : ∀ x, ∀ u ∈ cells x, u.oneCell' = true)
    (A : Option Addr) (c : Nat) (l : List α) (n : Nat) (hn : n = l.length) (hs : a.eval sl = .slice A n c) (hown : Own B e s cells w A c l) (hB : B ≤ w.heap.size) (ys : List α) (hl : l.length + ys.length ≤ 1073741824)
    (b off : Nat) (m c1 : Nat) (hm : m = ys.length) (hx : a.eval x = .slice (some ⟨b, off, none⟩) m c1) (hnews : ∀ i (hi : i < ys.length) j u, (cells ys[i])[j]? = some u → w.cell? ⟨b, off + i * s + j, none⟩ = some u)
    (h : ∀ A' c' w', Own B e s cells w' A' c' (l ++ ys) → w.grownBy w' (Value.slice A n c).ownBlock → (∀ a', A' = some a' → (∃ a0, A = some a0 ∧ a0.block = a'.block) ∨ a'.block = w.heap.size) → wpList P ops Q rest (a.put o.dst (.slice A' (n + m) c')) w') :
    wpList P ops Q (o :: rest) a w := by
  subst hn hm
  refine wpList_plain hgd fun K hK => ?_
  obtain ⟨A', c', w', hr, h2, h3, h4⟩ := appL (P := P) o.type t e s bytes z ht hinf hzs hsz hby hcl h1 A c l hown hB ys hl b off c1 hnews
  rw [show (l ++ ys).length = l.length + ys.length by simp] at hr
  unfold Oper.wp execOp
  simp only [ho, resolve, invoke, builtin, Sem.run_bind, Sem.run_pure, Result.andThen_ok, List.map_toArray, List.map_cons, List.map_nil, hs, hx, hr]
  exact hK _ _ (h A' c' w' h2 h3 h4)
theorem step_appL {cells : α → List Value} {B : Nat} {w : World} {ops : Array Oper} {o : Oper} {a : Act} {K : Act → World → Prop} {Q : Exit → Act → World → Prop} {E : Prop} (hgd : o.guard = none) (sl x : Operand) (t : TypeId)
    (ho : o.op = .call { callee := .builtin .append, args := #[sl, x], argTypes := #[t, t] })
    (e : TypeId) (s bytes : Nat) (z : Value) (ht : P.underlying t = some (.slice e)) (hinf : (P.info? e).map (fun i => (i.zero, i.size, i.bytes)) = some (some z, s, bytes)) (hzs : z.cells.size = s) (hsz : 0 < s) (hby : bytes ≤ 4096) (hcl : ∀ x, (cells x).length = s) (h1 : ∀ x, ∀ u ∈ cells x, u.oneCell' = true)
    (A : Option Addr) (c : Nat) (l : List α) (n : Nat) (hn : n = l.length) (hs : a.eval sl = .slice A n c) (hown : Own B e s cells w A c l) (hB : B ≤ w.heap.size) (ys : List α) (hl : l.length + ys.length ≤ 1073741824)
    (b off : Nat) (m c1 : Nat) (hm : m = ys.length) (hx : a.eval x = .slice (some ⟨b, off, none⟩) m c1) (hnews : ∀ i (hi : i < ys.length) j u, (cells ys[i])[j]? = some u → w.cell? ⟨b, off + i * s + j, none⟩ = some u)
    (h : ∀ A' c' w', Own B e s cells w' A' c' (l ++ ys) → w.grownBy w' (Value.slice A n c).ownBlock → (∀ a', A' = some a' → (∃ a0, A = some a0 ∧ a0.block = a'.block) ∨ a'.block = w.heap.size) → K (a.put o.dst (.slice A' (n + m) c')) w') :
    if Region.wanted o (yielded ops a.tmps) = true then Oper.wp P o a w K Q else E := by
  subst hn hm
  have hw : Region.wanted o (yielded ops a.tmps) = true := by simp [Region.wanted, hgd]
  rw [if_pos hw]
  obtain ⟨A', c', w', hr, h2, h3, h4⟩ := appL (P := P) o.type t e s bytes z ht hinf hzs hsz hby hcl h1 A c l hown hB ys hl b off c1 hnews
  rw [show (l ++ ys).length = l.length + ys.length by simp] at hr
  unfold Oper.wp execOp
  simp only [ho, resolve, invoke, builtin, Sem.run_bind, Sem.run_pure, Result.andThen_ok, List.map_toArray, List.map_cons, List.map_nil, hs, hx, hr]
  exact h A' c' w' h2 h3 h4
end
end Go.Proofs.YtjlaidjogladaaaDoor
