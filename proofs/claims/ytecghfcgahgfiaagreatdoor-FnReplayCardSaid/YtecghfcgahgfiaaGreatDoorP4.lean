import Derived.Test.YtecghfcgahgfiaaGreatDoorP1
import Derived.ProofKit
import Derived.OpenShut
import Derived.ShutString
import Derived.ChangeOld
import Derived.Deep.Slices
import Derived.Deep.Fields
import Derived.ChangeSame
import Derived.Lib.SmallJoins
import Derived.Test.YtecghfcgahgfiaaGreatDoorP3
import Derived.Laws.MakeOwn
import Derived.Laws.OwnMore
import Derived.Laws.Rows
/- Arguments opened: what a value that can be read as data holds, by its type. -/
namespace Go.Proofs.YtecghfcgahgfiaaGreatDoor
open Go.ChangeShapes Go.WideShapes Go.ChangeAt Go.RowKit Go.Deep Go.Joins
open Go.ChangeMaps (open_string shut_string)

section
variable {H : Type} {enc : TypeId × Value → H} {P : Program} {w : World} {base : Nat} {spare : Nat → Bool} {held : Bool}
theorem open_slice_fields {t e : TypeId} {fs : Array Field} {fuel : Nat} {cs : List Value} {x : DataW H × List MemPlace} (ht : P.underlying t = some (.slice e)) (he : P.underlying e = some (.struct fs))
    (hone : oneCellFields P fs = true) (hC : P.cellsOf e = fs.size) (h : DataW.trod enc P w base spare held fuel t cs = some x) :
    (cs = [.slice none 0 0] ∧ x = (.nil, [])) ∨
    ∃ (a : Addr) (len cap m : Nat) (D : Nat → DataW H) (Pl : Nat → List MemPlace), cs = [.slice (some a) len cap] ∧ base ≤ a.block ∧ len ≤ cap ∧ cap ≤ maxLen ∧ m = (if spare a.block then cap else len) ∧
      x = (.slice ((List.range len).map D) ((List.range (m - len)).map fun j => D (len + j)), MemPlace.row a (m * fs.size) ++ (List.range m).flatMap Pl) ∧
      ∀ i, i < m → ∃ (ys : List (DataW H × List MemPlace)) (n : Nat), D i = .agg (ys.map (·.1)) ∧ Pl i = ys.flatMap (·.2) ∧ ys.length = fs.size ∧
        ∀ (j : Nat) (f : Field), fs[j]? = some f → ∃ (v : Value) (y : DataW H × List MemPlace), w.cell? (a.add (i * fs.size + j)) = some v ∧ ys[j]? = some y ∧ DataW.trod enc P w base spare held n f.type [v] = some y := by
  rcases open_slice ht h with h0 | ⟨a, len, cap, m, n, D, Pl, hcs, hb, hl, hm, hmm, hx, hi⟩
  · exact .inl h0
  · refine .inr ⟨a, len, cap, m, D, Pl, hcs, hb, hl, hm, hmm, by rw [hC] at hx; exact hx, fun i him => ?_⟩
    obtain ⟨cs', hc, ht'⟩ := hi i him
    rw [hC] at hc
    obtain ⟨ys, n', hn', hy, hlen, hyl, hf⟩ := DataW.trod_struct he ht'
    obtain ⟨_, hcl, hat⟩ := World.cells?_some hc
    simp only [Prod.mk.injEq] at hy
    refine ⟨ys, n', hy.1, hy.2, hyl, fun j f hj => ?_⟩
    obtain ⟨ho, hk⟩ := hone_of hone j f hj
    have hjl : j < fs.size := (Array.getElem?_eq_some_iff.1 hj).1
    have hcell := hat j hjl
    have hv : cs'[j]? = some (cs'[j]'(by omega)) := List.getElem?_eq_getElem (by omega)
    have h1 := hf j f hj
    rw [ho, hk] at h1
    have hone' : (cs'.drop j).take 1 = [cs'[j]'(by omega)] := by
      rw [List.drop_eq_getElem_cons (by omega)]
      rfl
    rw [hone'] at h1
    have hys : ys[j]? = some (ys[j]'(by omega)) := List.getElem?_eq_getElem (by omega)
    refine ⟨_, _, ?_, hys, h1.trans hys⟩
    rw [← Go.Deep.add_add, hcell, hv]
end

section
variable {H : Type} {enc : TypeId × Value → H} {P : Program} {w : World} {base : Nat} {spare : Nat → Bool} {held : Bool}
theorem open_agg5 {r : Reach} {b0 : Nat} {t : TypeId} {f0 f1 f2 f3 f4 : Field} {v : Value} {d : DataW H} {p : List MemPlace} (hs : P.underlying t = some (.struct #[f0, f1, f2, f3, f4])) (hone : oneCellFields P #[f0, f1, f2, f3, f4] = true) (hC : P.cellsOf t = 5)
    (hv : Value.okWide P w r b0 t v) (h : DataW.Trod enc P w base spare held t v d p) :
    ∃ (v0 v1 v2 v3 v4 : Value) (y0 y1 y2 y3 y4 : DataW H × List MemPlace) (n : Nat), v = .agg #[v0, v1, v2, v3, v4] ∧ d = .agg [y0.1, y1.1, y2.1, y3.1, y4.1] ∧ p = y0.2 ++ (y1.2 ++ (y2.2 ++ (y3.2 ++ y4.2))) ∧
      DataW.trod enc P w base spare held n f0.type [v0] = some y0 ∧ DataW.trod enc P w base spare held n f1.type [v1] = some y1 ∧ DataW.trod enc P w base spare held n f2.type [v2] = some y2 ∧ DataW.trod enc P w base spare held n f3.type [v3] = some y3 ∧ DataW.trod enc P w base spare held n f4.type [v4] = some y4 := by
  obtain ⟨cs, rfl, hsz⟩ := okWide_struct hs hv
  obtain ⟨l⟩ := cs
  match l, hsz.trans hC with
  | [c0, c1, c2, c3, c4], _ =>
    obtain ⟨fuel, hf⟩ := h
    obtain ⟨xs, n, _, hx, _, hlen, hg⟩ := DataW.trod_struct hs hf
    obtain ⟨o0, k0⟩ := hone_of hone 0 f0 rfl
    obtain ⟨o1, k1⟩ := hone_of hone 1 f1 rfl
    obtain ⟨o2, k2⟩ := hone_of hone 2 f2 rfl
    obtain ⟨o3, k3⟩ := hone_of hone 3 f3 rfl
    obtain ⟨o4, k4⟩ := hone_of hone 4 f4 rfl
    match xs, hlen with
    | [y0, y1, y2, y3, y4], _ =>
      simp only [Prod.mk.injEq] at hx
      exact ⟨c0, c1, c2, c3, c4, y0, y1, y2, y3, y4, n, rfl, by simpa using hx.1, by simpa using hx.2, by simpa [Value.cells, o0, k0] using hg 0 f0 rfl, by simpa [Value.cells, o1, k1] using hg 1 f1 rfl, by simpa [Value.cells, o2, k2] using hg 2 f2 rfl, by simpa [Value.cells, o3, k3] using hg 3 f3 rfl, by simpa [Value.cells, o4, k4] using hg 4 f4 rfl⟩

theorem open_agg6 {r : Reach} {b0 : Nat} {t : TypeId} {f0 f1 f2 f3 f4 f5 : Field} {v : Value} {d : DataW H} {p : List MemPlace} (hs : P.underlying t = some (.struct #[f0, f1, f2, f3, f4, f5])) (hone : oneCellFields P #[f0, f1, f2, f3, f4, f5] = true) (hC : P.cellsOf t = 6)
    (hv : Value.okWide P w r b0 t v) (h : DataW.Trod enc P w base spare held t v d p) :
    ∃ (v0 v1 v2 v3 v4 v5 : Value) (y0 y1 y2 y3 y4 y5 : DataW H × List MemPlace) (n : Nat), v = .agg #[v0, v1, v2, v3, v4, v5] ∧ d = .agg [y0.1, y1.1, y2.1, y3.1, y4.1, y5.1] ∧ p = y0.2 ++ (y1.2 ++ (y2.2 ++ (y3.2 ++ (y4.2 ++ y5.2)))) ∧
      DataW.trod enc P w base spare held n f0.type [v0] = some y0 ∧ DataW.trod enc P w base spare held n f1.type [v1] = some y1 ∧ DataW.trod enc P w base spare held n f2.type [v2] = some y2 ∧ DataW.trod enc P w base spare held n f3.type [v3] = some y3 ∧ DataW.trod enc P w base spare held n f4.type [v4] = some y4 ∧ DataW.trod enc P w base spare held n f5.type [v5] = some y5 := by
  obtain ⟨cs, rfl, hsz⟩ := okWide_struct hs hv
  obtain ⟨l⟩ := cs
  match l, hsz.trans hC with
  | [c0, c1, c2, c3, c4, c5], _ =>
    obtain ⟨fuel, hf⟩ := h
    obtain ⟨xs, n, _, hx, _, hlen, hg⟩ := DataW.trod_struct hs hf
    obtain ⟨o0, k0⟩ := hone_of hone 0 f0 rfl
    obtain ⟨o1, k1⟩ := hone_of hone 1 f1 rfl
    obtain ⟨o2, k2⟩ := hone_of hone 2 f2 rfl
    obtain ⟨o3, k3⟩ := hone_of hone 3 f3 rfl
    obtain ⟨o4, k4⟩ := hone_of hone 4 f4 rfl
    obtain ⟨o5, k5⟩ := hone_of hone 5 f5 rfl
    match xs, hlen with
    | [y0, y1, y2, y3, y4, y5], _ =>
      simp only [Prod.mk.injEq] at hx
      exact ⟨c0, c1, c2, c3, c4, c5, y0, y1, y2, y3, y4, y5, n, rfl, by simpa using hx.1, by simpa using hx.2, by simpa [Value.cells, o0, k0] using hg 0 f0 rfl, by simpa [Value.cells, o1, k1] using hg 1 f1 rfl, by simpa [Value.cells, o2, k2] using hg 2 f2 rfl, by simpa [Value.cells, o3, k3] using hg 3 f3 rfl, by simpa [Value.cells, o4, k4] using hg 4 f4 rfl, by simpa [Value.cells, o5, k5] using hg 5 f5 rfl⟩
end

section
variable {H : Type} {enc : TypeId × Value → H} {P : Program} {w : World} {base : Nat} {spare : Nat → Bool} {held : Bool}
/-- A slice whose elements can be told by their cells, read as a list. -/
theorem read_list {α : Type} (cells : α → List Value) (s : Nat) (Q : α → Prop) {t e : TypeId} (ht : P.underlying t = some (.slice e)) (hC : P.cellsOf e = s) (hs : ∀ r, ∃ u, (cells r)[0]? = some u)
    (R : ∀ n cs y, DataW.trod enc P w base spare held n e cs = some y → ∃ r, Q r ∧ cs = cells r) {fuel : Nat} {cs : List Value} {x : DataW H × List MemPlace} (h : DataW.trod enc P w base spare held fuel t cs = some x) :
    ∃ (A : Option Addr) (c : Nat) (l : List α), cs = [.slice A l.length c] ∧ Sl w s cells A l ∧ (∀ r ∈ l, Q r) ∧ l.length ≤ maxLen := by
  rcases open_slice ht h with ⟨hcs, _⟩ | ⟨ad, len, cap, m, n, D, Pl, hcs, _, hl, hm, hme, _, hi⟩
  · exact ⟨none, 0, [], hcs, Sl.nil _ _ _ _, by simp, by simp⟩
  · have key : ∀ i, i < len → ∃ r : α, Q r ∧ ∀ j u, (cells r)[j]? = some u → w.cell? (ad.add (i * s + j)) = some u := by
      intro i hin
      obtain ⟨cs', hc, ht'⟩ := hi i (by rw [hme]; split <;> omega)
      obtain ⟨r, hr, rfl⟩ := R _ _ _ ht'
      obtain ⟨_, hlen, hcell⟩ := World.cells?_some hc
      refine ⟨r, hr, fun j u hu => ?_⟩
      have hj := (List.getElem?_eq_some_iff.1 hu).1
      have := hcell j (by omega)
      rw [hC, Go.Deep.add_add, hu] at this
      exact this
    obtain ⟨l, h1, h2, h3⟩ := Sl.collect (P := Q) key (fun r _ => hs r)
    subst h1
    exact ⟨some ad, cap, l, hcs, h3, h2, by omega⟩
end
/-- A struct that came in by value: its cells read as the reader says. -/
theorem read_value {H : Type} {enc : TypeId × Value → H} {P : Program} {w : World} {base : Nat} {spare : Nat → Bool} {held : Bool} {r : Reach} {b0 : Nat} {t : TypeId} {fs : Array Field} {v : Value} {d : DataW H} {p : List MemPlace}
    (hs : P.underlying t = some (.struct fs)) (hv : Value.okWide P w r b0 t v) (h : DataW.Trod enc P w base spare held t v d p) : ∃ cs fuel, v = .agg cs ∧ DataW.trod enc P w base spare held fuel t cs.toList = some (d, p) := by
  obtain ⟨cs, rfl, _⟩ := okWide_struct hs hv
  obtain ⟨fuel, hf⟩ := h
  exact ⟨cs, fuel, rfl, by simpa [Value.cells] using hf⟩
/-- The field that stands at place i, in so many cells from its offset on. -/
theorem field_at {H : Type} {enc : TypeId × Value → H} {P : Program} {w : World} {base : Nat} {spare : Nat → Bool} {held : Bool} {n : Nat} {fs : Array Field} {cs : List Value} {xs : List (DataW H × List MemPlace)}
    (hf : ∀ (i : Nat) (f : Field), fs[i]? = some f → DataW.trod enc P w base spare held n f.type ((cs.drop f.offset).take (P.cellsOf f.type)) = xs[i]?) (hx : xs.length = fs.size)
    (i : Nat) (f : Field) (hi : fs[i]? = some f) (k : Nat) (hk : P.cellsOf f.type = k) : ∃ y, DataW.trod enc P w base spare held n f.type ((cs.drop f.offset).take k) = some y := by
  have hlt : i < fs.size := (Array.getElem?_eq_some_iff.1 hi).1
  exact ⟨_, by rw [← hk, hf i f hi]; exact List.getElem?_eq_getElem (by omega)⟩
theorem get_some {α : Type} {l : List α} {i n : Nat} (h : l.length = n) (hi : i < n) : ∃ y, l[i]? = some y := ⟨_, List.getElem?_eq_getElem (by omega)⟩
end Go.Proofs.YtecghfcgahgfiaaGreatDoor
/- Log records: the record contracts. -/
namespace Go.Proofs.YtecghfcgahgfiaaGreatDoor
open Go.ChangeShapes Go.WideShapes Go.ChangeAt Go.RowKit Go.Deep Go.Joins
open Go.ChangeMaps (open_string shut_string)

theorem noBytes (c : ByteArray) : c.toList.isEmpty = decide ((c.size : Int) = 0) := by
  rw [ByteArray.toList_eq]
  have : c.size = c.data.toList.length := by simp
  rw [this]
  cases c.data.toList <;> simp
  omega
theorem noNil (c : ByteArray) (h : c.toList = []) : (c.size : Int) = 0 := by
  rw [ByteArray.toList_eq] at h
  have : c.size = c.data.toList.length := by simp
  rw [this, h]; rfl
abbrev recVal (c r : ByteArray) : Value := .agg #[.string c, .string r]
set_option maxHeartbeats 400000 in
theorem s_l27Good (c r : ByteArray) (o : Bool) (ho : recOk c r = o) (w : World) (hc : c.size ≤ maxLen) (hr : r.size ≤ maxLen) :
    Calls Tryz.prog 39 #[recVal c r] w fun e w' => e = .returned (.bool o) ∧ ∃ g, w' = plus w g := by
  subst ho
  go_enter Tryz.func39, Tryz.ntmps39
  go_wp2_with (first
    | (go_at_call 76; refine (s_l27Plain _ _ _ rfl _ (by first | exact hc | exact hr)).mono ?_; (rintro e w' ⟨rfl, rfl⟩))
    | (go_at_call 77; refine (s_l1Stands _ 64 _ rfl _ rfl _ hc).mono ?_; (rintro e w' ⟨rfl, rfl⟩)))
  all_goals
    go_ret
    refine ⟨ret_bool ?_, by (repeat (first | with_reducible exact grew_refl _ | with_reducible assumption | with_reducible refine grew_split ?_ | with_reducible refine grew_mk ?_ | with_reducible refine grew_plus ?_ | with_reducible refine grew_alloc ?_ | with_reducible refine grew_drew ?_ | (with_reducible refine grew_set ?_ (by first | exact Nat.le_refl _ | omega | (simp [go_sem]; done) | (simp [go_sem]; omega)))))⟩
    have hnil := noNil c
    simp only [recOk, noBytes, inB] at *
    grind
set_option maxHeartbeats 400000 in
theorem i_IsValidRecord (c r : ByteArray) (o : Bool) (ho : recOk c r = o) (w : World) (hc : c.size ≤ maxLen) (hr : r.size ≤ maxLen) :
    Calls Tryz.prog 34 #[recVal c r] w fun e w' => e = .returned (.bool o) ∧ ∃ g, w' = plus w g := by
  subst ho
  go_enter Tryz.func34, Tryz.ntmps34
  go_wp2_with (first
    | (go_at_call 58; refine (i_inside _ _ _ _ rfl _).mono ?_; (rintro e w' ⟨rfl, rfl⟩))
    | (go_at_call 67; refine (i_isPlain _ _ rfl _ (by first | exact hc | exact hr)).mono ?_; (rintro e w' ⟨rfl, rfl⟩))
    | (go_at_call 68; refine (Tryz.strings_Contains_one _ 64 _).mono ?_; (rintro e w' ⟨rfl, rfl⟩)))
  all_goals
    go_ret
    refine ⟨ret_bool ?_, by (repeat (first | with_reducible exact grew_refl _ | with_reducible assumption | with_reducible refine grew_split ?_ | with_reducible refine grew_mk ?_ | with_reducible refine grew_plus ?_ | with_reducible refine grew_alloc ?_ | with_reducible refine grew_drew ?_ | (with_reducible refine grew_set ?_ (by first | exact Nat.le_refl _ | omega | (simp [go_sem]; done) | (simp [go_sem]; omega)))))⟩
    simp only [recOk, contains_has, inB] at *
    grind
end Go.Proofs.YtecghfcgahgfiaaGreatDoor
/- Checksums and the lines of records, in both packages. -/
namespace Go.Proofs.YtecghfcgahgfiaaGreatDoor
open Go.RowKit

/-- The tables and the variable that the library reads lie where they should. -/
structure Env (w : World) : Prop where
  tab : Tab w
  mx : ∃ m, w.cell? ⟨0, 0, none⟩ = some (.int .i64 m)
theorem Env.grew {w w' : World} (h : Env w) (hg : ∃ g, w' = plus w g) : Env w' :=
  ⟨h.tab.grew hg, by obtain ⟨m, hm⟩ := h.mx; exact ⟨m, (below_of_grew hg).cell (World.block_lt_of_cell? _ _ hm) |>.trans hm⟩⟩
theorem take_step (s : ByteArray) (k : Nat) (h : k < s.size) : (bl s).take (k + 1) = (bl s).take k ++ [s[k]] := by
  rw [List.take_succ_eq_append_getElem (by simpa using h)]; rfl
theorem take_all (s : ByteArray) : (bl s).take s.size = bl s := List.take_of_length_le (by rw [bl_len]; exact Nat.le_refl _)
set_option maxHeartbeats 400000 in
theorem s_l1Sum (s : ByteArray) (w : World) (hs : s.size ≤ maxLen) :
    Calls Tryz.prog 114 #[.string s] w fun e w' => e = .returned (.int .i64 (sumL (bl s))) ∧ w = w' := by
  unfold maxLen at hs
  go_enter Tryz.func114, Tryz.ntmps114
  go_wp2_with fail
  go_loop [3, 4] (fun h i => ∃ k : Nat, k ≤ s.size ∧ i = .int .i64 k ∧ h = .int .i64 (sumL ((bl s).take k))) (fun _ i => s.size - (intOf i).toNat)
  case atStart => exact ⟨0, Nat.zero_le _, rfl, rfl⟩
  case round =>
    obtain ⟨k, hk, rfl, rfl⟩ := hrel
    obtain ⟨r0, r1⟩ := sumL_range ((bl s).take k)
    by_cases hlt : k < s.size
    · have hb := s[k].toNat_lt
      have hb' : (s[k].toNat : Int) < 256 := by omega
      have hb0 : (0 : Int) ≤ (s[k].toNat : Int) := by omega
      have HS := hid (take_step s k hlt)
      have HL := hid (sumL_snoc ((bl s).take k) s[k])
      go_wp2
      go_round
      case rel => exact ⟨k + 1, by omega, by go_num, by rw [HS.out, HL.out]⟩
      case measure => simp [intOf]; omega
    · obtain rfl : k = s.size := by omega
      go_wp2
      go_ret
      exact ⟨ret_int (by rw [take_all]), rfl⟩
set_option maxHeartbeats 400000 in
theorem i_checksum (s : ByteArray) (w : World) (hs : s.size ≤ maxLen) :
    Calls Tryz.prog 120 #[.string s] w fun e w' => e = .returned (.int .i64 (sumL (bl s))) ∧ w = w' := by
  unfold maxLen at hs
  go_enter Tryz.func120, Tryz.ntmps120
  go_wp2_with fail
  go_loop [3, 4] (fun h i => ∃ k : Nat, k ≤ s.size ∧ i = .int .i64 k ∧ h = .int .i64 (sumL ((bl s).take k))) (fun _ i => s.size - (intOf i).toNat)
  case atStart => exact ⟨0, Nat.zero_le _, rfl, rfl⟩
  case round =>
    obtain ⟨k, hk, rfl, rfl⟩ := hrel
    obtain ⟨r0, r1⟩ := sumL_range ((bl s).take k)
    by_cases hlt : k < s.size
    · have hb := s[k].toNat_lt
      have hb' : (s[k].toNat : Int) < 256 := by omega
      have hb0 : (0 : Int) ≤ (s[k].toNat : Int) := by omega
      have HS := hid (take_step s k hlt)
      have HL := hid (sumL_snoc ((bl s).take k) s[k])
      go_wp2
      go_round
      case rel => exact ⟨k + 1, by omega, by go_num, by rw [HS.out, HL.out]⟩
      case measure => simp [intOf]; omega
    · obtain rfl : k = s.size := by omega
      go_wp2
      go_ret
      exact ⟨ret_int (by rw [take_all]), rfl⟩
/-- A text with its checksum. -/
def sealB (s : ByteArray) : ByteArray := s ++ ⟨#[35]⟩ ++ num (sumL (bl s))
theorem seal_size (s : ByteArray) : (sealB s).size ≤ s.size + 15 := by
  have := num_size (sumL (bl s)) (by have := sumL_range (bl s); omega) (by have := sumL_range (bl s); omega)
  have h1 : (⟨#[35]⟩ : ByteArray).size = 1 := rfl
  simp only [sealB, ByteArray.size_append, h1]; omega
theorem sum_bound (s : Bytes) : -9223372036854775808 ≤ sumL s ∧ sumL s ≤ 9223372036854775807 ∧ -1000000000000 ≤ sumL s ∧ sumL s ≤ 1000000000000 := by
  have := sumL_range s; omega
set_option maxHeartbeats 1000000 in
theorem s_l1Seal (s : ByteArray) (w : World) (hs : s.size ≤ 1048576) :
    Calls Tryz.prog 89 #[.string s] w fun e w' => e = .returned (.string (sealB s)) ∧ ∃ g, w' = plus w g := by
  have hm : s.size ≤ maxLen := by unfold maxLen; omega
  have HM := hid hm
  clear hm
  have z1 := num_size (sumL (bl s)) (sum_bound _).2.2.1 (sum_bound _).2.2.2
  go_enter Tryz.func89, Tryz.ntmps89
  go_wp2_with fail
  refine (s_l1Sum s _ HM.out).mono ?_
  (rintro e w' ⟨rfl, rfl⟩)
  go_wp2_with fail
  refine (s_l1Num _ _ (sum_bound _).2.2.1 (sum_bound _).2.2.2).mono ?_
  (rintro e w' ⟨rfl, gx, rfl⟩)
  go_wp2_with fail
  go_ret
  exact ⟨ret_str rfl, by (repeat (first | with_reducible exact grew_refl _ | with_reducible assumption | with_reducible refine grew_split ?_ | with_reducible refine grew_mk ?_ | with_reducible refine grew_plus ?_ | with_reducible refine grew_alloc ?_ | with_reducible refine grew_drew ?_ | (with_reducible refine grew_set ?_ (by first | exact Nat.le_refl _ | omega | (simp [go_sem]; done) | (simp [go_sem]; omega)))))⟩
set_option maxHeartbeats 1000000 in
theorem i_AppendChecksum (s : ByteArray) (w : World) (hs : s.size ≤ 3900) (hf : hasB s 35 = false) (hE : Env w) :
    Calls Tryz.prog 98 #[.string s] w fun e w' => e = .returned (.tuple #[.string (sealB s), .bool true]) ∧ ∃ g, w' = plus w g := by
  have hm : s.size ≤ maxLen := by unfold maxLen; omega
  have HM := hid hm
  have HE := hid hE
  have HF := hid ((contains_has s 35).trans hf)
  clear hm hE hf
  have z1 := num_size (sumL (bl s)) (sum_bound _).2.2.1 (sum_bound _).2.2.2
  go_enter Tryz.func98, Tryz.ntmps98
  go_wp2_with fail
  refine (Tryz.strings_Contains_one s 35 _).mono ?_
  rintro e w' ⟨rfl, hw⟩
  rw [HF.out, hw]
  go_wp2_with fail
  refine (i_checksum s _ HM.out).mono ?_
  (rintro e w' ⟨rfl, rfl⟩)
  go_wp2_with fail
  refine (i_Itoa _ _ (sum_bound _).1 (sum_bound _).2.1 HE.out.tab).mono ?_
  (rintro e w' ⟨rfl, gx, rfl⟩)
  go_wp2_with fail
  go_ret2
  exact ⟨ret_strb rfl rfl, by (repeat (first | with_reducible exact grew_refl _ | with_reducible assumption | with_reducible refine grew_split ?_ | with_reducible refine grew_mk ?_ | with_reducible refine grew_plus ?_ | with_reducible refine grew_alloc ?_ | with_reducible refine grew_drew ?_ | (with_reducible refine grew_set ?_ (by first | exact Nat.le_refl _ | omega | (simp [go_sem]; done) | (simp [go_sem]; omega)))))⟩
/-- A record's text and line. -/
def textV (k : Nat) (e : RecR) : ByteArray := num k ++ ⟨#[32]⟩ ++ e.c ++ ⟨#[64]⟩ ++ e.r
def lineV (k : Nat) (e : RecR) : ByteArray := sealB (textV k e) ++ ⟨#[10]⟩
theorem bl_app (a b : ByteArray) : bl (a ++ b) = bl a ++ bl b := by simp [bl, ByteArray.data_append]
theorem textV_bytes (k : Nat) (e : RecR) : bl (textV k e) = textB k (bl e.c) (bl e.r) := by
  simp only [textV, bl_app, textB, num]
  simp [bl]
theorem lineV_bytes (k : Nat) (e : RecR) : bl (lineV k e) = e.line k ++ [10] := by
  simp only [lineV, sealB, bl_app, textV_bytes, RecR.line, lineB, num]
  simp [bl]
theorem textV_size (k : Nat) (e : RecR) : (textV k e).size = (num k).size + 2 + e.c.size + e.r.size := by
  have h1 : (⟨#[32]⟩ : ByteArray).size = 1 := rfl
  have h2 : (⟨#[64]⟩ : ByteArray).size = 1 := rfl
  simp only [textV, ByteArray.size_append, h1, h2]; omega
theorem text_hash {e : RecR} (h : e.ok = true) (k : Nat) : hasB (textV k e) 35 = false := by
  rw [hasB, List.any_eq_false]
  intro c hc
  have := (text_free h k c (by rw [← textV_bytes]; exact hc)).1
  simp only [beq_iff_eq]
  intro e1
  exact this (UInt8.toNat_inj.1 e1)
abbrev RecR.val (e : RecR) : Value := .agg #[.string e.c, .string e.r]
set_option maxHeartbeats 1000000 in
theorem i_encodeRecord (k : Nat) (e : RecR) (w : World) (hk : k < 60) (ho : e.ok = true) (hE : Env w) :
    Calls Tryz.prog 73 #[.int .i64 k, e.val] w fun e' w' => e' = .returned (.string (lineV k e)) ∧ ∃ g, w' = plus w g := by
  obtain ⟨p1, p2, _, _, _, p3⟩ := RecR.parts ho
  have z1 := num_size k (by omega) (by omega)
  have hz := textV_size k e
  have z2 : (sealB (textV k e)).size ≤ 1000 := by have := seal_size (textV k e); omega
  have HC := hid (fun W (h : Env W) => i_AppendChecksum (textV k e) W (by omega) (text_hash ho k) h)
  have HE := hid hE
  obtain ⟨c, r⟩ := e
  simp only at p1 p2 p3
  clear hz ho hE
  go_enter Tryz.func73, Tryz.ntmps73
  go_wp2_with fail
  (refine wp_region_calm (by kernel_rfl) (by kernel_rfl) ?_; (repeat' (first | go_big_quiet_step ((first | (go_at_call 47; exact calm_of (i_Itoa _ _ (by omega) (by omega) (HE.out.tab.grew (by (repeat (first | with_reducible exact grew_refl _ | with_reducible assumption | with_reducible refine grew_split ?_ | with_reducible refine grew_mk ?_ | with_reducible refine grew_plus ?_ | with_reducible refine grew_alloc ?_ | with_reducible refine grew_drew ?_ | (with_reducible refine grew_set ?_ (by first | exact Nat.le_refl _ | omega | (simp [go_sem]; done) | (simp [go_sem]; omega))))))))) | (go_at_call 98; first | exact calm_of (HC.out _ (HE.out.grew (by (repeat (first | with_reducible exact grew_refl _ | with_reducible assumption | with_reducible refine grew_split ?_ | with_reducible refine grew_mk ?_ | with_reducible refine grew_plus ?_ | with_reducible refine grew_alloc ?_ | with_reducible refine grew_drew ?_ | (with_reducible refine grew_set ?_ (by first | exact Nat.le_refl _ | omega | (simp [go_sem]; done) | (simp [go_sem]; omega)))))))) | exact calm_add (HC.out _ (HE.out.grew (by (repeat (first | with_reducible exact grew_refl _ | with_reducible assumption | with_reducible refine grew_split ?_ | with_reducible refine grew_mk ?_ | with_reducible refine grew_plus ?_ | with_reducible refine grew_alloc ?_ | with_reducible refine grew_drew ?_ | (with_reducible refine grew_set ?_ (by first | exact Nat.le_refl _ | omega | (simp [go_sem]; done) | (simp [go_sem]; omega))))))))))) | (refine wpQuiet_step (fun K hK => ?_); go_simp; go_ite <;> go_simp <;> (first | (refine hK _ ?_; clear hK K) | (apply Exists.intro; refine ⟨fun _ => ?_, hK _ ?_⟩; ((first | (go_at_call 47; exact calm_of (i_Itoa _ _ (by omega) (by omega) (HE.out.tab.grew (by (repeat (first | with_reducible exact grew_refl _ | with_reducible assumption | with_reducible refine grew_split ?_ | with_reducible refine grew_mk ?_ | with_reducible refine grew_plus ?_ | with_reducible refine grew_alloc ?_ | with_reducible refine grew_drew ?_ | (with_reducible refine grew_set ?_ (by first | exact Nat.le_refl _ | omega | (simp [go_sem]; done) | (simp [go_sem]; omega))))))))) | (go_at_call 98; first | exact calm_of (HC.out _ (HE.out.grew (by (repeat (first | with_reducible exact grew_refl _ | with_reducible assumption | with_reducible refine grew_split ?_ | with_reducible refine grew_mk ?_ | with_reducible refine grew_plus ?_ | with_reducible refine grew_alloc ?_ | with_reducible refine grew_drew ?_ | (with_reducible refine grew_set ?_ (by first | exact Nat.le_refl _ | omega | (simp [go_sem]; done) | (simp [go_sem]; omega)))))))) | exact calm_add (HC.out _ (HE.out.grew (by (repeat (first | with_reducible exact grew_refl _ | with_reducible assumption | with_reducible refine grew_split ?_ | with_reducible refine grew_mk ?_ | with_reducible refine grew_plus ?_ | with_reducible refine grew_alloc ?_ | with_reducible refine grew_drew ?_ | (with_reducible refine grew_set ?_ (by first | exact Nat.le_refl _ | omega | (simp [go_sem]; done) | (simp [go_sem]; omega))))))))))); clear hK K))))); all_goals (refine wpQuiet_nil ?_; intro _ hw'; obtain ⟨gq, hw''⟩ := hw'; subst hw''))
  go_wp2_with fail
  go_ret
  exact ⟨ret_str rfl, by (repeat (first | with_reducible exact grew_refl _ | with_reducible assumption | with_reducible refine grew_split ?_ | with_reducible refine grew_mk ?_ | with_reducible refine grew_plus ?_ | with_reducible refine grew_alloc ?_ | with_reducible refine grew_drew ?_ | (with_reducible refine grew_set ?_ (by first | exact Nat.le_refl _ | omega | (simp [go_sem]; done) | (simp [go_sem]; omega)))))⟩
set_option maxHeartbeats 1000000 in
theorem s_l27Line (k : Nat) (e : RecR) (w : World) (hk : k < 1000) (h1 : e.c.size ≤ 100000) (h2 : e.r.size ≤ 100000) :
    Calls Tryz.prog 62 #[.int .i64 k, e.val] w fun e' w' => e' = .returned (.string (lineV k e)) ∧ ∃ g, w' = plus w g := by
  have z1 := num_size k (by omega) (by omega)
  have hz := textV_size k e
  have z2 : (sealB (textV k e)).size ≤ 1000000 := by have := seal_size (textV k e); omega
  have HC := hid (fun W => s_l1Seal (textV k e) W (by omega))
  obtain ⟨c, r⟩ := e
  simp only at h1 h2
  clear hz
  go_enter Tryz.func62, Tryz.ntmps62
  go_wp2_with fail
  (refine wp_region_calm (by kernel_rfl) (by kernel_rfl) ?_; (repeat' (first | go_big_quiet_step ((first | (go_at_call 49; exact calm_of (s_l1Num _ _ (by omega) (by omega))) | (go_at_call 89; first | exact calm_of (HC.out _) | exact calm_add (HC.out _)))) | (refine wpQuiet_step (fun K hK => ?_); go_simp; go_ite <;> go_simp <;> (first | (refine hK _ ?_; clear hK K) | (apply Exists.intro; refine ⟨fun _ => ?_, hK _ ?_⟩; ((first | (go_at_call 49; exact calm_of (s_l1Num _ _ (by omega) (by omega))) | (go_at_call 89; first | exact calm_of (HC.out _) | exact calm_add (HC.out _)))); clear hK K))))); all_goals (refine wpQuiet_nil ?_; intro _ hw'; obtain ⟨gq, hw''⟩ := hw'; subst hw''))
  go_wp2_with fail
  go_ret
  exact ⟨ret_str rfl, by (repeat (first | with_reducible exact grew_refl _ | with_reducible assumption | with_reducible refine grew_split ?_ | with_reducible refine grew_mk ?_ | with_reducible refine grew_plus ?_ | with_reducible refine grew_alloc ?_ | with_reducible refine grew_drew ?_ | (with_reducible refine grew_set ?_ (by first | exact Nat.le_refl _ | omega | (simp [go_sem]; done) | (simp [go_sem]; omega)))))⟩
end Go.Proofs.YtecghfcgahgfiaaGreatDoor
/- Arrays that a call has made: known whole, stored into, handed on. No program in sight. -/
namespace Go.Proofs.YtecghfcgahgfiaaGreatDoor
open Go.RowKit

/-- Block g is just the cells cs of element type t, none frozen. -/
def Blk (w : World) (g : Nat) (t : TypeId) (cs : Array Value) : Prop := w.heap[g]? = some (.cells cs t (0, 0))
section
variable {w w' : World} {g : Nat} {t : TypeId} {cs : Array Value}
theorem Blk.lt (h : Blk w g t cs) : g < w.heap.size := by
  rcases Nat.lt_or_ge g w.heap.size with hlt | hge
  · exact hlt
  · unfold Blk at h; rw [Array.getElem?_eq_none hge] at h; cases h
theorem Blk.cell (h : Blk w g t cs) (i : Nat) : w.cell? ⟨g, i, none⟩ = cs[i]? := cell_of_row w g i cs t (0, 0) h
theorem Blk.some_ (h : Blk w g t cs) (i : Nat) (hi : i < cs.size) : ∃ u, w.cell? ⟨g, i, none⟩ = some u := ⟨_, (h.cell i).trans (Array.getElem?_eq_getElem hi)⟩
theorem Blk.frozen (h : Blk w g t cs) (i : Nat) : w.frozen? ⟨g, i, none⟩ = false := by
  unfold Blk at h
  simp [World.frozen?, h]
theorem Blk.new (w : World) (t : TypeId) (cs : Array Value) : Blk (w.alloc (.cells cs t)) w.heap.size t cs := heap_alloc_new w _
theorem Blk.alloc (h : Blk w g t cs) (o : Obj) : Blk (w.alloc o) g t cs := (Below.heap_alloc w o g h.lt).trans h
theorem Blk.set_ (h : Blk w g t cs) (i : Nat) (u : Value) : Blk (w.setCell ⟨g, i, none⟩ u) g t (cs.setIfInBounds i u) := by
  unfold Blk at h ⊢
  simp [World.setCell, Array.getElem?_modify, h]
theorem Blk.far (h : Blk w g t cs) {p : Addr} (hp : g ≠ p.block) (u : Value) : Blk (w.setCell p u) g t cs := (Below.heap_setCell w p u g hp).trans h
theorem Blk.below {B : Nat} (h : Blk w g t cs) (hb : Below B w w') (hg : g < B) : Blk w' g t cs := (hb.block g hg).trans h
theorem Blk.plus (h : Blk w g t cs) (x : Ext) : Blk (plus w x) g t cs := h.below (below_plus _ _) h.lt
/-- A block behind the old ones stays, whatever becomes of a block among the old ones. -/
theorem Blk.base {W W' : World} {x : Ext} {k : Nat} (h : Blk (Go.Proofs.YtecghfcgahgfiaaGreatDoor.plus W x) k t cs) (hk : W.heap.size ≤ k) (hs : W'.heap.size = W.heap.size) : Blk (Go.Proofs.YtecghfcgahgfiaaGreatDoor.plus W' x) k t cs := by
  unfold Blk Go.Proofs.YtecghfcgahgfiaaGreatDoor.plus at *
  simp only [Array.getElem?_append] at *
  rw [if_neg (by omega)] at *
  rw [hs]; exact h
theorem Blk.grown {row : Option Nat} (h : Blk w g t cs) (hb : w.grownBy w' row) (hg : some g ≠ row) : Blk w' g t cs := (hb.block g h.lt hg).trans h
end

theorem Blk.some1 {w : World} {g : Nat} {t : TypeId} {cs : Array Value} (h : Blk w g t cs) (o : Nat) (ho : o + 1 ≤ cs.size) : (∃ u, w.cell? ⟨g, o, none⟩ = some u) ∧ w.frozen? ⟨g, o, none⟩ = false :=
  ⟨h.some_ _ (by omega), h.frozen _⟩
theorem Blk.some2 {w : World} {g : Nat} {t : TypeId} {cs : Array Value} (h : Blk w g t cs) (o : Nat) (ho : o + 2 ≤ cs.size) : (∃ u, w.cell? ⟨g, o, none⟩ = some u) ∧ (∃ u, w.cell? ⟨g, o + 1, none⟩ = some u) ∧ w.frozen? ⟨g, o, none⟩ = false ∧ w.frozen? ⟨g, o + 1, none⟩ = false :=
  ⟨h.some_ _ (by omega), h.some_ _ (by omega), h.frozen _, h.frozen _⟩
theorem Blk.some3 {w : World} {g : Nat} {t : TypeId} {cs : Array Value} (h : Blk w g t cs) (o : Nat) (ho : o + 3 ≤ cs.size) : (∃ u, w.cell? ⟨g, o, none⟩ = some u) ∧ (∃ u, w.cell? ⟨g, o + 1, none⟩ = some u) ∧ (∃ u, w.cell? ⟨g, o + 2, none⟩ = some u) ∧ w.frozen? ⟨g, o, none⟩ = false ∧ w.frozen? ⟨g, o + 1, none⟩ = false ∧ w.frozen? ⟨g, o + 2, none⟩ = false :=
  ⟨h.some_ _ (by omega), h.some_ _ (by omega), h.some_ _ (by omega), h.frozen _, h.frozen _, h.frozen _⟩
theorem Blk.some6 {w : World} {g : Nat} {t : TypeId} {cs : Array Value} (h : Blk w g t cs) (o : Nat) (ho : o + 6 ≤ cs.size) : (∃ u, w.cell? ⟨g, o, none⟩ = some u) ∧ (∃ u, w.cell? ⟨g, o + 1, none⟩ = some u) ∧ (∃ u, w.cell? ⟨g, o + 2, none⟩ = some u) ∧ (∃ u, w.cell? ⟨g, o + 3, none⟩ = some u) ∧ (∃ u, w.cell? ⟨g, o + 4, none⟩ = some u) ∧ (∃ u, w.cell? ⟨g, o + 5, none⟩ = some u) ∧ w.frozen? ⟨g, o, none⟩ = false ∧ w.frozen? ⟨g, o + 1, none⟩ = false ∧ w.frozen? ⟨g, o + 2, none⟩ = false ∧ w.frozen? ⟨g, o + 3, none⟩ = false ∧ w.frozen? ⟨g, o + 4, none⟩ = false ∧ w.frozen? ⟨g, o + 5, none⟩ = false :=
  ⟨h.some_ _ (by omega), h.some_ _ (by omega), h.some_ _ (by omega), h.some_ _ (by omega), h.some_ _ (by omega), h.some_ _ (by omega), h.frozen _, h.frozen _, h.frozen _, h.frozen _, h.frozen _, h.frozen _⟩
theorem Blk.some7 {w : World} {g : Nat} {t : TypeId} {cs : Array Value} (h : Blk w g t cs) (o : Nat) (ho : o + 7 ≤ cs.size) : (∃ u, w.cell? ⟨g, o, none⟩ = some u) ∧ (∃ u, w.cell? ⟨g, o + 1, none⟩ = some u) ∧ (∃ u, w.cell? ⟨g, o + 2, none⟩ = some u) ∧ (∃ u, w.cell? ⟨g, o + 3, none⟩ = some u) ∧ (∃ u, w.cell? ⟨g, o + 4, none⟩ = some u) ∧ (∃ u, w.cell? ⟨g, o + 5, none⟩ = some u) ∧ (∃ u, w.cell? ⟨g, o + 6, none⟩ = some u) ∧ w.frozen? ⟨g, o, none⟩ = false ∧ w.frozen? ⟨g, o + 1, none⟩ = false ∧ w.frozen? ⟨g, o + 2, none⟩ = false ∧ w.frozen? ⟨g, o + 3, none⟩ = false ∧ w.frozen? ⟨g, o + 4, none⟩ = false ∧ w.frozen? ⟨g, o + 5, none⟩ = false ∧ w.frozen? ⟨g, o + 6, none⟩ = false :=
  ⟨h.some_ _ (by omega), h.some_ _ (by omega), h.some_ _ (by omega), h.some_ _ (by omega), h.some_ _ (by omega), h.some_ _ (by omega), h.some_ _ (by omega), h.frozen _, h.frozen _, h.frozen _, h.frozen _, h.frozen _, h.frozen _, h.frozen _⟩
/-- The array with the values us laid from o on. -/
def put (cs : Array Value) (o : Nat) : List Value → Array Value
  | [] => cs
  | u :: r => put (cs.setIfInBounds o u) (o + 1) r
theorem size_put (us : List Value) : ∀ (cs : Array Value) (o : Nat), (put cs o us).size = cs.size := by
  induction us with
  | nil => intro cs o; rfl
  | cons u r ih => intro cs o; rw [put, ih]; simp
theorem put_below (us : List Value) : ∀ (cs : Array Value) (o i : Nat), i < o → (put cs o us)[i]? = cs[i]? := by
  induction us with
  | nil => intro cs o i _; rfl
  | cons u r ih => intro cs o i hi; rw [put, ih _ _ _ (by omega), Array.getElem?_setIfInBounds]; rw [if_neg (by omega)]
theorem put_beyond (us : List Value) : ∀ (cs : Array Value) (o i : Nat), o + us.length ≤ i → (put cs o us)[i]? = cs[i]? := by
  induction us with
  | nil => intro cs o i _; rfl
  | cons u r ih => intro cs o i hi; simp only [List.length_cons] at hi; rw [put, ih _ _ _ (by omega), Array.getElem?_setIfInBounds]; rw [if_neg (by omega)]
theorem put_at (us : List Value) : ∀ (cs : Array Value) (o j : Nat) (u : Value), us[j]? = some u → o + j < cs.size → (put cs o us)[o + j]? = some u := by
  induction us with
  | nil => intro cs o j u h; simp at h
  | cons v r ih =>
    intro cs o j u h hs
    cases j with
    | zero =>
      simp only [List.getElem?_cons_zero, Option.some.injEq] at h
      subst h
      rw [put, put_below _ _ _ _ (by omega), Array.getElem?_setIfInBounds]; rw [if_pos (by omega), if_pos (by omega)]
    | succ j =>
      rw [put, show o + (j + 1) = o + 1 + j by omega]
      exact ih _ _ _ _ (by simpa using h) (by simp; omega)

/-! Stores of one element's cells, one behind the other. -/
section
variable {w : World} {g : Nat} {t : TypeId} {cs : Array Value}
theorem Blk.put1 (h : Blk w g t cs) (o : Nat) (u0 : Value) : Blk (w.setCell ⟨g, o, none⟩ u0) g t (put cs o [u0]) := by
  have := (h.set_ (o) u0)
  simpa only [put, Nat.add_assoc, Nat.reduceAdd] using this
theorem Blk.put2 (h : Blk w g t cs) (o : Nat) (u0 u1 : Value) : Blk ((w.setCell ⟨g, o, none⟩ u0).setCell ⟨g, o + 1, none⟩ u1) g t (put cs o [u0, u1]) := by
  have := ((h.set_ (o) u0).set_ (o + 1) u1)
  simpa only [put, Nat.add_assoc, Nat.reduceAdd] using this
theorem Blk.put3 (h : Blk w g t cs) (o : Nat) (u0 u1 u2 : Value) : Blk (((w.setCell ⟨g, o, none⟩ u0).setCell ⟨g, o + 1, none⟩ u1).setCell ⟨g, o + 2, none⟩ u2) g t (put cs o [u0, u1, u2]) := by
  have := (((h.set_ (o) u0).set_ (o + 1) u1).set_ (o + 2) u2)
  simpa only [put, Nat.add_assoc, Nat.reduceAdd] using this
theorem Blk.put4 (h : Blk w g t cs) (o : Nat) (u0 u1 u2 u3 : Value) : Blk ((((w.setCell ⟨g, o, none⟩ u0).setCell ⟨g, o + 1, none⟩ u1).setCell ⟨g, o + 2, none⟩ u2).setCell ⟨g, o + 3, none⟩ u3) g t (put cs o [u0, u1, u2, u3]) := by
  have := ((((h.set_ (o) u0).set_ (o + 1) u1).set_ (o + 2) u2).set_ (o + 3) u3)
  simpa only [put, Nat.add_assoc, Nat.reduceAdd] using this
theorem Blk.put5 (h : Blk w g t cs) (o : Nat) (u0 u1 u2 u3 u4 : Value) : Blk (((((w.setCell ⟨g, o, none⟩ u0).setCell ⟨g, o + 1, none⟩ u1).setCell ⟨g, o + 2, none⟩ u2).setCell ⟨g, o + 3, none⟩ u3).setCell ⟨g, o + 4, none⟩ u4) g t (put cs o [u0, u1, u2, u3, u4]) := by
  have := (((((h.set_ (o) u0).set_ (o + 1) u1).set_ (o + 2) u2).set_ (o + 3) u3).set_ (o + 4) u4)
  simpa only [put, Nat.add_assoc, Nat.reduceAdd] using this
theorem Blk.put6 (h : Blk w g t cs) (o : Nat) (u0 u1 u2 u3 u4 u5 : Value) : Blk ((((((w.setCell ⟨g, o, none⟩ u0).setCell ⟨g, o + 1, none⟩ u1).setCell ⟨g, o + 2, none⟩ u2).setCell ⟨g, o + 3, none⟩ u3).setCell ⟨g, o + 4, none⟩ u4).setCell ⟨g, o + 5, none⟩ u5) g t (put cs o [u0, u1, u2, u3, u4, u5]) := by
  have := ((((((h.set_ (o) u0).set_ (o + 1) u1).set_ (o + 2) u2).set_ (o + 3) u3).set_ (o + 4) u4).set_ (o + 5) u5)
  simpa only [put, Nat.add_assoc, Nat.reduceAdd] using this
theorem Blk.put7 (h : Blk w g t cs) (o : Nat) (u0 u1 u2 u3 u4 u5 u6 : Value) : Blk (((((((w.setCell ⟨g, o, none⟩ u0).setCell ⟨g, o + 1, none⟩ u1).setCell ⟨g, o + 2, none⟩ u2).setCell ⟨g, o + 3, none⟩ u3).setCell ⟨g, o + 4, none⟩ u4).setCell ⟨g, o + 5, none⟩ u5).setCell ⟨g, o + 6, none⟩ u6) g t (put cs o [u0, u1, u2, u3, u4, u5, u6]) := by
  have := (((((((h.set_ (o) u0).set_ (o + 1) u1).set_ (o + 2) u2).set_ (o + 3) u3).set_ (o + 4) u4).set_ (o + 5) u5).set_ (o + 6) u6)
  simpa only [put, Nat.add_assoc, Nat.reduceAdd] using this
end

/-- The first k elements of l lie in the array, each in s cells. -/
def Filled {α : Type} (cs : Array Value) (s : Nat) (cells : α → List Value) (l : List α) (k : Nat) : Prop :=
  ∀ i (hi : i < l.length), i < k → ∀ j u, (cells l[i])[j]? = some u → cs[i * s + j]? = some u
theorem Filled.zero {α : Type} (cs : Array Value) (s : Nat) (cells : α → List Value) (l : List α) : Filled cs s cells l 0 := fun _ _ h => absurd h (by omega)
theorem Filled.step {α : Type} {cs : Array Value} {s : Nat} {cells : α → List Value} {l : List α} {k : Nat} (h : Filled cs s cells l k) (hk : k < l.length) (hs : ∀ x ∈ l, (cells x).length = s) (hz : l.length * s ≤ cs.size) :
    Filled (put cs (k * s) (cells l[k])) s cells l (k + 1) := by
  intro i hi hik j u hu
  have hj : j < s := by
    have := (List.getElem?_eq_some_iff.1 hu).1
    rwa [hs _ (List.getElem_mem hi)] at this
  rcases Nat.lt_or_ge i k with h1 | h1
  · rw [put_below]
    · exact h i hi h1 j u hu
    · have : (i + 1) * s ≤ k * s := Nat.mul_le_mul_right _ h1
      rw [Nat.add_mul] at this; omega
  · obtain rfl : i = k := by omega
    refine put_at _ _ _ _ _ hu ?_
    have : (i + 1) * s ≤ l.length * s := Nat.mul_le_mul_right _ hk
    rw [Nat.add_mul] at this; omega
/-- A filled array of the call's own reads as the list. -/
theorem Sl.of_blk {α : Type} {w : World} {g : Nat} {t : TypeId} {cs : Array Value} {s : Nat} {cells : α → List Value} {l : List α} (hb : Blk w g t cs) (hf : Filled cs s cells l l.length) : Sl w s cells (some ⟨g, 0, none⟩) l :=
  .inr ⟨g, 0, rfl, hb.lt, fun i hi j u hu => by rw [Nat.zero_add]; exact (hb.cell _).trans (hf i hi hi j u hu)⟩

theorem run_make_rowN {P : Program} (t e : TypeId) (i : TypeInfo) (z : Value) (ht : P.underlying t = some (.slice e)) (hi : P.info? e = some i) (hz : i.zero = some z)
    (n : Nat) (hbytes : i.bytes * n ≤ 281474976710656) (w : World) :
    (Instr.makeSlice t (.int .i64 (n : Int)) (.int .i64 (n : Int))).run P w = .ok (.slice (some ⟨w.heap.size, 0, none⟩) n n) (w.alloc (.cells (madeCells z.cells (n * i.size)) e)) ∨ i.bytes = 0 := by
  rcases Nat.eq_zero_or_pos i.bytes with h0 | h0
  · exact .inr h0
  · left
    have hn : n ≤ i.bytes * n := Nat.le_mul_of_pos_left _ h0
    have hb : (i.bytes : Int) * (n : Int) ≤ 281474976710656 := by
      have h : ((i.bytes * n : Nat) : Int) ≤ 281474976710656 := by omega
      rwa [Int.natCast_mul] at h
    have hr := run_make (P := P) w t e i z ht hi hz .i64 .i64 n n (by omega) (by omega) hb (by omega)
    simp only [Int.toNat_natCast] at hr
    exact hr
end Go.Proofs.YtecghfcgahgfiaaGreatDoor
