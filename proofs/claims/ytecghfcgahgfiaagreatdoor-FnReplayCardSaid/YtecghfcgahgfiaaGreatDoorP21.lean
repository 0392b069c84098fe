import Derived.Test.YtecghfcgahgfiaaGreatDoorP14
import Derived.Test.YtecghfcgahgfiaaGreatDoorP18
import Derived.Test.YtecghfcgahgfiaaGreatDoorP12
import Derived.Laws.AppendOwnNone
import Derived.Deep.RegionHeldLaw
import Derived.Deep.RegionWith
/- Copies of days and of consoles, in both packages; lists of any length. -/
namespace Go.Proofs.YtecghfcgahgfiaaGreatDoor
open Go.RowKit

theorem run_append_zero {P : Program} {w : World} (base : Nat) (t ty e : TypeId) (i : TypeInfo) (size : Nat) (ht : P.underlying t = some (.slice e)) (hi : P.info? e = some i)
    (v : Value) (n : Nat) (xs : List Value) (hown : w.ownsRow base e size v n xs) (A : Option Addr) (c : Nat) :
    (Builtin.append_ #[t, t] ty #[v, .slice A 0 c]).run P w = .ok v w := by
  have hl : ∀ a, Sem.run P (loadCells a 0) w = .ok #[] w := by
    intro a; first | rfl | simp [loadCells]
  rcases hown.2 with ⟨rfl, rfl⟩ | ⟨g, cap, cur, rfl, _, _, hnc, _⟩
  · cases A <;> simp [Builtin.append_, run_underlying ht, sizeOf, typeInfo, hi, Builtin.lenOf, Builtin.firstCells, hl]
  · cases A <;> simp [Builtin.append_, run_underlying ht, sizeOf, typeInfo, hi, Builtin.lenOf, Builtin.firstCells, hnc, storeCells, hl]
section
variable {P : Program} {α : Type}
/-- append(out, ys...) of a whole list, an empty one too. -/
theorem appS {cells : α → List Value} {B : Nat} {w : World} (ty t : TypeId)
    (e : TypeId) (s bytes : Nat) (z : Value) (ht : P.underlying t = some (.slice e)) (hinf : (P.info? e).map (fun i => (i.zero, i.size, i.bytes)) = some (some z, s, bytes)) (hzs : z.cells.size = s) (hsz : 0 < s) (hby : bytes ≤ 4096) (hcl : ∀ x, (cells x).length = s) (h1 : ∀ x, ∀ u ∈ cells x, u.oneCell' = true)
    (A : Option Addr) (c : Nat) (l : List α) (hown : Own B e s cells w A c l) (hB : B ≤ w.heap.size) (ys : List α) (hl : l.length + ys.length ≤ 1073741824)
    (X : Option Addr) (c1 : Nat) (hX : Sl w s cells X ys) :
    ∃ A' c' w', (Builtin.append_ #[t, t] ty #[.slice A l.length c, .slice X ys.length c1]).run P w = .ok (.slice A' (l ++ ys).length c') w' ∧ Own B e s cells w' A' c' (l ++ ys) ∧ w.grownBy w' (Value.slice A l.length c).ownBlock ∧
      (∀ a', A' = some a' → (∃ a0, A = some a0 ∧ a0.block = a'.block) ∨ a'.block = w.heap.size) := by
  by_cases h0 : ys.length = 0
  · obtain rfl : ys = [] := List.eq_nil_of_length_eq_zero h0
    obtain ⟨i0, hi0, _, _, _⟩ := info_parts hinf
    refine ⟨A, c, w, ?_, by rw [List.append_nil]; exact hown, grown_refl _ _, fun a' ha => .inl ⟨a', ha, rfl⟩⟩
    rw [List.append_nil]
    exact run_append_zero B t ty e i0 s ht hi0 _ _ _ hown X c1
  · obtain ⟨b, off, rfl, _, hc⟩ := hX.at_ (show 0 < ys.length by omega)
    exact appL ty t e s bytes z ht hinf hzs hsz hby hcl h1 A c l hown hB ys hl b off c1 hc
theorem wpList_appS {cells : α → List Value} {B : Nat} {w : World} {ops : Array Oper} {rest : List Oper} {o : Oper} {a : Act} {Q : Exit → Act → World → Prop} (hgd : o.guard = none) (sl x : Operand) (t : TypeId)
    (ho : o.op = .call { callee := .builtin .append, args := #[sl, x], argTypes := #[t, t] })
    (e : TypeId) (s bytes : Nat) (z : Value) (ht : P.underlying t = some (.slice e)) (hinf : (P.info? e).map (fun i => (i.zero, i.size, i.bytes)) = some (some z, s, bytes)) (hzs : z.cells.size = s) (hsz : 0 < s) (hby : bytes ≤ 4096) (hcl : ∀ x, (cells x).length = s) (h1 : ∀ x, ∀ u ∈ cells x, u.oneCell' = true)
    (A : Option Addr) (c : Nat) (l : List α) (n : Nat) (hn : n = l.length) (hs : a.eval sl = .slice A n c) (hown : Own B e s cells w A c l) (hB : B ≤ w.heap.size) (ys : List α) (hl : l.length + ys.length ≤ 1073741824)
    (X : Option Addr) (m c1 : Nat) (hm : m = ys.length) (hx : a.eval x = .slice X m c1) (hX : Sl w s cells X ys)
    (h : ∀ A' c' w', Own B e s cells w' A' c' (l ++ ys) → w.grownBy w' (Value.slice A n c).ownBlock → (∀ a', A' = some a' → (∃ a0, A = some a0 ∧ a0.block = a'.block) ∨ a'.block = w.heap.size) → wpList P ops Q rest (a.put o.dst (.slice A' (n + m) c')) w') :
    wpList P ops Q (o :: rest) a w := by
  subst hn hm
  refine wpList_plain hgd fun K hK => ?_
  obtain ⟨A', c', w', hr, h2, h3, h4⟩ := appS (P := P) o.type t e s bytes z ht hinf hzs hsz hby hcl h1 A c l hown hB ys hl X c1 hX
  rw [show (l ++ ys).length = l.length + ys.length by simp] at hr
  unfold Oper.wp execOp
  simp only [ho, resolve, invoke, builtin, Sem.run_bind, Sem.run_pure, Result.andThen_ok, List.map_toArray, List.map_cons, List.map_nil, hs, hx, hr]
  exact hK _ _ (h A' c' w' h2 h3 h4)
theorem step_appS {cells : α → List Value} {B : Nat} {w : World} {ops : Array Oper} {o : Oper} {a : Act} {K : Act → World → Prop} {Q : Exit → Act → World → Prop} {E : Prop} (hgd : o.guard = none) (sl x : Operand) (t : TypeId)
    (ho : o.op = .call { callee := .builtin .append, args := #[sl, x], argTypes := #[t, t] })
    (e : TypeId) (s bytes : Nat) (z : Value) (ht : P.underlying t = some (.slice e)) (hinf : (P.info? e).map (fun i => (i.zero, i.size, i.bytes)) = some (some z, s, bytes)) (hzs : z.cells.size = s) (hsz : 0 < s) (hby : bytes ≤ 4096) (hcl : ∀ x, (cells x).length = s) (h1 : ∀ x, ∀ u ∈ cells x, u.oneCell' = true)
    (A : Option Addr) (c : Nat) (l : List α) (n : Nat) (hn : n = l.length) (hs : a.eval sl = .slice A n c) (hown : Own B e s cells w A c l) (hB : B ≤ w.heap.size) (ys : List α) (hl : l.length + ys.length ≤ 1073741824)
    (X : Option Addr) (m c1 : Nat) (hm : m = ys.length) (hx : a.eval x = .slice X m c1) (hX : Sl w s cells X ys)
    (h : ∀ A' c' w', Own B e s cells w' A' c' (l ++ ys) → w.grownBy w' (Value.slice A n c).ownBlock → (∀ a', A' = some a' → (∃ a0, A = some a0 ∧ a0.block = a'.block) ∨ a'.block = w.heap.size) → K (a.put o.dst (.slice A' (n + m) c')) w') :
    if Region.wanted o (yielded ops a.tmps) = true then Oper.wp P o a w K Q else E := by
  subst hn hm
  have hw : Region.wanted o (yielded ops a.tmps) = true := by simp [Region.wanted, hgd]
  rw [if_pos hw]
  obtain ⟨A', c', w', hr, h2, h3, h4⟩ := appS (P := P) o.type t e s bytes z ht hinf hzs hsz hby hcl h1 A c l hown hB ys hl X c1 hX
  rw [show (l ++ ys).length = l.length + ys.length by simp] at hr
  unfold Oper.wp execOp
  simp only [ho, resolve, invoke, builtin, Sem.run_bind, Sem.run_pure, Result.andThen_ok, List.map_toArray, List.map_cons, List.map_nil, hs, hx, hr]
  exact h A' c' w' h2 h3 h4
end
set_option maxHeartbeats 2000000 in
theorem i_newDayG (v : DayV) (w : World) (hv : Sl w 2 LineR.row v.A v.core.lines) (h8 : v.core.lines.length ≤ 1048576) :
    Calls Tryz.prog 66 #[v.val] w fun e w' => (∃ A' c', e = .returned (DayV.val ⟨v.core, A', c'⟩) ∧ OwnF w.heap.size 80 2 LineR.row w' A' v.core.lines) ∧ ∃ g, w' = plus w g := by
  have HL := hid hv
  clear hv
  obtain ⟨⟨minute, state, lines, line, since, cast, fuel⟩, A, c⟩ := v
  simp only at h8 HL ⊢
  go_enter Tryz.func66, Tryz.ntmps66
  go_wp2_with (at_builtin; go_loud (refine wpList_appS (B := w.heap.size + 1 + 1) rfl _ _ _ rfl 80 2 16 _ Tryz.underlying24 newline_info rfl (by omega) (by omega) (fun _ => rfl) LineR.one _ 0 [] 0 rfl rfl (Own.new rfl (by simp) (by simp)) (by simp) lines (by simp; omega) A lines.length c rfl rfl (HL.out.grew (by (repeat (first | with_reducible exact grew_refl _ | with_reducible assumption | with_reducible refine grew_split ?_ | with_reducible refine grew_mk ?_ | with_reducible refine grew_plus ?_ | with_reducible refine grew_alloc ?_ | with_reducible refine grew_drew ?_ | (with_reducible refine grew_set ?_ (by first | exact Nat.le_refl _ | omega | (simp [go_sem]; done) | (simp [go_sem]; omega))))))) ?_); intro A1 c1 w1 hO1 hg1 hat1; have hb0 := blk_kept (((blk_new (w := w) (b := w.heap.size) rfl).alloc _).alloc _) hg1 (by intro a ha; injection ha with ha; subst ha; simp <;> omega); have hb1 := blk_kept ((blk_new (b := w.heap.size + 1) (by simp)).alloc _) hg1 (by intro a ha; injection ha with ha; subst ha; simp); (have hp0 := hb0.cell 0; have hp1 := hb0.cell 1; have hp2 := hb0.cell 2; have hp3 := hb0.cell 3; have hp4 := hb0.cell 4; have hp5 := hb0.cell 5; have hp6 := hb0.cell 6; simp [go_sem] at hp0 hp1 hp2 hp3 hp4 hp5 hp6); (have hq0 := hb1.cell 0; have hq1 := hb1.cell 1; have hq2 := hb1.cell 2; have hq3 := hb1.cell 3; have hq4 := hb1.cell 4; have hq5 := hb1.cell 5; have hq6 := hb1.cell 6; simp [go_sem] at hq0 hq1 hq2 hq3 hq4 hq5 hq6); have hf0 := hb0.frozen 2; have hr0 := hb1.frozen 0; have hr1 := hb1.frozen 1; have hr2 := hb1.frozen 2; have hr3 := hb1.frozen 3; have hr4 := hb1.frozen 4; have hr5 := hb1.frozen 5; have hr6 := hb1.frozen 6; have HO1 := hid hO1; have HG1 := hid hg1; have HA1 := hid hat1; clear hO1 hg1 hat1 hb0 hb1)
  have hn0 : ∀ a, A1 = some a → a.block ≠ w.heap.size := fun a ha => by
    rcases HA1.out a ha with ⟨a0, h1, h2⟩ | h2
    · injection h1 with h1; subst h1; simp at h2; omega
    · rw [h2]; simp; omega
  have hn1 : ∀ a, A1 = some a → a.block ≠ w.heap.size + 1 := fun a ha => by
    rcases HA1.out a ha with ⟨a0, h1, h2⟩ | h2
    · injection h1 with h1; subst h1; simp at h2; omega
    · rw [h2]; simp; omega
  have hw1 := grew_own (w0 := w) (by (repeat (first | with_reducible exact grew_refl _ | with_reducible assumption | with_reducible refine grew_split ?_ | with_reducible refine grew_mk ?_ | with_reducible refine grew_plus ?_ | with_reducible refine grew_alloc ?_ | with_reducible refine grew_drew ?_ | (with_reducible refine grew_set ?_ (by first | exact Nat.le_refl _ | omega | (simp [go_sem]; done) | (simp [go_sem]; omega)))))) HG1.out (by intro a ha; injection ha with ha; subst ha; simp <;> omega)
  refine bodyPost_ret (v := DayV.val ⟨⟨minute, state, lines, line, since, cast, fuel⟩, A1, c1⟩) (by simp [results, Tryz.results66, go_sem, *]) rfl ?_
  refine ⟨⟨A1, c1, rfl, ?_⟩, by (repeat (first | with_reducible exact grew_refl _ | with_reducible assumption | with_reducible refine grew_split ?_ | with_reducible refine grew_mk ?_ | with_reducible refine grew_plus ?_ | with_reducible refine grew_alloc ?_ | with_reducible refine grew_drew ?_ | (with_reducible refine grew_set ?_ (by first | exact Nat.le_refl _ | omega | (simp [go_sem]; done) | (simp [go_sem]; omega)))))⟩
  have h := HO1.out
  rw [List.nil_append] at h
  exact (((((((((h.setFar hn0).setFar hn1).setFar hn1).setFar hn1).setFar hn1).setFar hn1).setFar hn1).setFar hn1).f (fun _ => rfl)).less (by omega)
set_option maxHeartbeats 2000000 in
theorem s_l25OwnG (v : DayV) (w : World) (hv : Sl w 2 LineR.row v.A v.core.lines) (h8 : v.core.lines.length ≤ 1048576) :
    Calls Tryz.prog 74 #[v.val] w fun e w' => (∃ A' c', e = .returned (DayV.val ⟨v.core, A', c'⟩) ∧ OwnF w.heap.size 80 2 LineR.row w' A' v.core.lines) ∧ ∃ g, w' = plus w g := by
  have HL := hid hv
  clear hv
  obtain ⟨⟨minute, state, lines, line, since, cast, fuel⟩, A, c⟩ := v
  simp only at h8 HL ⊢
  go_enter Tryz.func74, Tryz.ntmps74
  go_wp2_with fail
  go_region_held_law (fun w' => w'.cell? ⟨w.heap.size, 0, none⟩ = some (.int .i64 minute) ∧ w'.cell? ⟨w.heap.size, 1, none⟩ = some (.int .i64 state) ∧ w'.cell? ⟨w.heap.size, 2, none⟩ = some (.slice A lines.length c) ∧ w'.cell? ⟨w.heap.size, 3, none⟩ = some (.int .i64 line) ∧ w'.cell? ⟨w.heap.size, 4, none⟩ = some (.int .i64 since) ∧ w'.cell? ⟨w.heap.size, 5, none⟩ = some (.int .i64 cast) ∧ w'.cell? ⟨w.heap.size, 6, none⟩ = some (.int .i64 fuel)) (first | go_keep | exact ⟨hp0, hp1, hp2, hp3, hp4, hp5, hp6⟩) ((refine step_appS (B := w.heap.size + 1 + 1) (by rfl) _ _ _ (by rfl) 80 2 16 _ Tryz.underlying24 newline_info rfl (by omega) (by omega) (fun _ => rfl) LineR.one _ 0 [] 0 rfl (by rfl) (Own.newIn (o := .cells #[] 80) (by (repeat (first | with_reducible exact grew_refl _ | with_reducible assumption | with_reducible refine grew_split ?_ | with_reducible refine grew_mk ?_ | with_reducible refine grew_plus ?_ | with_reducible refine grew_alloc ?_ | with_reducible refine grew_drew ?_ | (with_reducible refine grew_set ?_ (by first | exact Nat.le_refl _ | omega | (simp [go_sem]; done) | (simp [go_sem]; omega)))))) rfl (by simp) (by simp)) (by simp) lines (by simp; omega) A lines.length c rfl (by rfl) (HL.out.grew (by (repeat (first | with_reducible exact grew_refl _ | with_reducible assumption | with_reducible refine grew_split ?_ | with_reducible refine grew_mk ?_ | with_reducible refine grew_plus ?_ | with_reducible refine grew_alloc ?_ | with_reducible refine grew_drew ?_ | (with_reducible refine grew_set ?_ (by first | exact Nat.le_refl _ | omega | (simp [go_sem]; done) | (simp [go_sem]; omega))))))) ?_; intro A1 c1 w1 hO1 hg1 hat1; have hb0 := blk_kept (blk_grew (blk_new (w := w) (b := w.heap.size) rfl) (by (repeat (first | with_reducible exact grew_refl _ | with_reducible assumption | with_reducible refine grew_split ?_ | with_reducible refine grew_mk ?_ | with_reducible refine grew_plus ?_ | with_reducible refine grew_alloc ?_ | with_reducible refine grew_drew ?_ | (with_reducible refine grew_set ?_ (by first | exact Nat.le_refl _ | omega | (simp [go_sem]; done) | (simp [go_sem]; omega))))))) hg1 (by intro a ha; injection ha with ha; subst ha; simp <;> omega); have hb1 := blk_kept (blk_grew (blk_new (w := w.alloc _) (b := w.heap.size + 1) (by simp)) (by (repeat (first | with_reducible exact grew_refl _ | with_reducible assumption | with_reducible refine grew_split ?_ | with_reducible refine grew_mk ?_ | with_reducible refine grew_plus ?_ | with_reducible refine grew_alloc ?_ | with_reducible refine grew_drew ?_ | (with_reducible refine grew_set ?_ (by first | exact Nat.le_refl _ | omega | (simp [go_sem]; done) | (simp [go_sem]; omega))))))) hg1 (by intro a ha; injection ha with ha; subst ha; simp); (have hp0 := hb0.cell 0; have hp1 := hb0.cell 1; have hp2 := hb0.cell 2; have hp3 := hb0.cell 3; have hp4 := hb0.cell 4; have hp5 := hb0.cell 5; have hp6 := hb0.cell 6; simp [go_sem] at hp0 hp1 hp2 hp3 hp4 hp5 hp6); (have hq0 := hb1.cell 0; have hq1 := hb1.cell 1; have hq2 := hb1.cell 2; have hq3 := hb1.cell 3; have hq4 := hb1.cell 4; have hq5 := hb1.cell 5; have hq6 := hb1.cell 6; simp [go_sem] at hq0 hq1 hq2 hq3 hq4 hq5 hq6); have hr0 := hb1.frozen 0; have hr1 := hb1.frozen 1; have hr2 := hb1.frozen 2; have hr3 := hb1.frozen 3; have hr4 := hb1.frozen 4; have hr5 := hb1.frozen 5; have hr6 := hb1.frozen 6; clear hb0 hb1; have HO1 := hid hO1; have HG1 := hid hg1; have HA1 := hid hat1; clear hO1 hg1 hat1))
  go_wp2_with fail
  have hn1 : ∀ a, A1 = some a → a.block ≠ w.heap.size + 1 := fun a ha => by
    rcases HA1.out a ha with ⟨a0, h1, h2⟩ | h2
    · injection h1 with h1; subst h1; simp at h2; omega
    · rw [h2]; simp; try omega
  have hw1 := grew_own (w0 := w) (by (repeat (first | with_reducible exact grew_refl _ | with_reducible assumption | with_reducible refine grew_split ?_ | with_reducible refine grew_mk ?_ | with_reducible refine grew_plus ?_ | with_reducible refine grew_alloc ?_ | with_reducible refine grew_drew ?_ | (with_reducible refine grew_set ?_ (by first | exact Nat.le_refl _ | omega | (simp [go_sem]; done) | (simp [go_sem]; omega)))))) HG1.out (by intro a ha; injection ha with ha; subst ha; simp <;> omega)
  refine bodyPost_ret (v := DayV.val ⟨⟨minute, state, lines, line, since, cast, fuel⟩, A1, c1⟩) (by simp [results, Tryz.results74, go_sem, *]) rfl ?_
  refine ⟨⟨A1, c1, rfl, ?_⟩, by (repeat (first | with_reducible exact grew_refl _ | with_reducible assumption | with_reducible refine grew_split ?_ | with_reducible refine grew_mk ?_ | with_reducible refine grew_plus ?_ | with_reducible refine grew_alloc ?_ | with_reducible refine grew_drew ?_ | (with_reducible refine grew_set ?_ (by first | exact Nat.le_refl _ | omega | (simp [go_sem]; done) | (simp [go_sem]; omega)))))⟩
  have h := HO1.out
  rw [List.nil_append] at h
  exact ((((((((h.setFar hn1).setFar hn1).setFar hn1).setFar hn1).setFar hn1).setFar hn1).setFar hn1).f (fun _ => rfl)).less (by omega)
set_option maxHeartbeats 2000000 in
theorem i_newConsole (v : DayV) (l : LogR) (w : World) (hv : Sl w 2 LineR.row v.A v.core.lines) (h8 : v.core.lines.length ≤ 1048576) :
    Calls Tryz.prog 33 #[ConV.val ⟨v, l⟩] w fun e w' => (∃ A' c', e = .returned (ConV.val ⟨⟨v.core, A', c'⟩, l⟩) ∧ OwnF w.heap.size 80 2 LineR.row w' A' v.core.lines) ∧ ∃ g, w' = plus w g := by
  have HL := hid hv
  clear hv
  go_enter Tryz.func33, Tryz.ntmps33
  go_wp2_with fail
  go_region_with (go_at_call 66; refine (i_newDayG v _ (HL.out.grew (by (repeat (first | with_reducible exact grew_refl _ | with_reducible assumption | with_reducible refine grew_split ?_ | with_reducible refine grew_mk ?_ | with_reducible refine grew_plus ?_ | with_reducible refine grew_alloc ?_ | with_reducible refine grew_drew ?_ | (with_reducible refine grew_set ?_ (by first | exact Nat.le_refl _ | omega | (simp [go_sem]; done) | (simp [go_sem]; omega))))))) h8).mono ?_; rintro e w' ⟨⟨A1, c1, rfl, hO⟩, g1, rfl⟩; have HO := hid hO; clear hO)
  all_goals
    go_wp2_with fail
    refine bodyPost_ret (v := ConV.val ⟨⟨v.core, A1, c1⟩, l⟩) (by simp [results, Tryz.results33, go_sem, *]) rfl ?_
    refine ⟨⟨A1, c1, rfl, ?_⟩, by (repeat (first | with_reducible exact grew_refl _ | with_reducible assumption | with_reducible refine grew_split ?_ | with_reducible refine grew_mk ?_ | with_reducible refine grew_plus ?_ | with_reducible refine grew_alloc ?_ | with_reducible refine grew_drew ?_ | (with_reducible refine grew_set ?_ (by first | exact Nat.le_refl _ | omega | (simp [go_sem]; done) | (simp [go_sem]; omega)))))⟩
    exact (HO.out.base (by simp) (by simp)).less (by simp; omega)
set_option maxHeartbeats 2000000 in
theorem s_l28Own (v : DayV) (l : LogR) (w : World) (hv : Sl w 2 LineR.row v.A v.core.lines) (h8 : v.core.lines.length ≤ 1048576) :
    Calls Tryz.prog 37 #[ConV.val ⟨v, l⟩] w fun e w' => (∃ A' c', e = .returned (ConV.val ⟨⟨v.core, A', c'⟩, l⟩) ∧ OwnF w.heap.size 80 2 LineR.row w' A' v.core.lines) ∧ ∃ g, w' = plus w g := by
  have HL := hid hv
  clear hv
  go_enter Tryz.func37, Tryz.ntmps37
  go_wp2_with fail
  go_region_with (go_at_call 74; refine (s_l25OwnG v _ (HL.out.grew (by (repeat (first | with_reducible exact grew_refl _ | with_reducible assumption | with_reducible refine grew_split ?_ | with_reducible refine grew_mk ?_ | with_reducible refine grew_plus ?_ | with_reducible refine grew_alloc ?_ | with_reducible refine grew_drew ?_ | (with_reducible refine grew_set ?_ (by first | exact Nat.le_refl _ | omega | (simp [go_sem]; done) | (simp [go_sem]; omega))))))) h8).mono ?_; rintro e w' ⟨⟨A1, c1, rfl, hO⟩, g1, rfl⟩; have HO := hid hO; clear hO)
  all_goals
    go_wp2_with fail
    refine bodyPost_ret (v := ConV.val ⟨⟨v.core, A1, c1⟩, l⟩) (by simp [results, Tryz.results37, go_sem, *]) rfl ?_
    refine ⟨⟨A1, c1, rfl, ?_⟩, by (repeat (first | with_reducible exact grew_refl _ | with_reducible assumption | with_reducible refine grew_split ?_ | with_reducible refine grew_mk ?_ | with_reducible refine grew_plus ?_ | with_reducible refine grew_alloc ?_ | with_reducible refine grew_drew ?_ | (with_reducible refine grew_set ?_ (by first | exact Nat.le_refl _ | omega | (simp [go_sem]; done) | (simp [go_sem]; omega)))))⟩
    exact (HO.out.base (by simp) (by simp)).less (by simp; omega)
end Go.Proofs.YtecghfcgahgfiaaGreatDoor
