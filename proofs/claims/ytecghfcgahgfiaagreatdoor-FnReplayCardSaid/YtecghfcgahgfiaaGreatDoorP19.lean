import Derived.Test.YtecghfcgahgfiaaGreatDoorP18
import Derived.Test.YtecghfcgahgfiaaGreatDoorP6
import Derived.Test.YtecghfcgahgfiaaGreatDoorP17
import Derived.Test.YtecghfcgahgfiaaGreatDoorP8
import Derived.Test.YtecghfcgahgfiaaGreatDoorP2
/- The words of commands, and lists of numbers as texts, in both packages. -/
namespace Go.Proofs.YtecghfcgahgfiaaGreatDoor
open Go.RowKit

set_option maxHeartbeats 1000000 in
theorem i_stepKind (s : ByteArray) (w : World) : Calls Tryz.prog 69 #[.string s] w fun e w' => e = .returned (.int .i64 (kindF s)) ∧ w = w' := by
  go_enter Tryz.func69, Tryz.ntmps69
  go_wp2
  all_goals
    go_ret
    exact ⟨ret_int (by simp [kindF, wordIs, *]), rfl⟩
/-- The kind of a step that is told by one word. -/
def kind1 (s : ByteArray) : Int := if kindF s = 1 ∨ kindF s = 4 then 0 else kindF s
theorem toList_one {s : ByteArray} {l m : List UInt8} (h : (s.toList == l) = true) (hne : (l == m) = false) : (s.toList == m) = false := by
  rw [beq_iff_eq] at h; rw [h]; exact hne
theorem kind1_of {s : ByteArray} : kind1 s = if wordIs s [108, 101, 97, 118, 101] then 2 else if wordIs s [99, 97, 115, 116] then 3 else if wordIs s [101, 110, 100] then 5 else if wordIs s [98, 114, 101, 97, 107] then 6 else if wordIs s [114, 101, 116, 117, 114, 110] then 7 else 0 := by
  by_cases h1 : s.toList = [119, 97, 105, 116]
  · simp [kind1, kindF, wordIs, h1]
  by_cases h4 : s.toList = [98, 101, 103, 105, 110]
  · simp [kind1, kindF, wordIs, h4]
  simp only [kind1, kindF, wordIs, beq_iff_eq, h1, h4, if_false]
  repeat' split
  all_goals omega
set_option maxHeartbeats 1000000 in
theorem s_l28Kind (s : ByteArray) (w : World) : Calls Tryz.prog 78 #[.string s] w fun e w' => e = .returned (.int .i64 (kind1 s)) ∧ w = w' := by
  go_enter Tryz.func78, Tryz.ntmps78
  go_wp2
  all_goals
    go_ret
    exact ⟨ret_int (by rw [kind1_of]; simp [wordIs, *]), rfl⟩
theorem icells' {w : World} {b off : Nat} {l : List Int} (hc : ∀ i (hi : i < l.length) j u, (intRow l[i])[j]? = some u → w.cell? ⟨b, off + i * 1 + j, none⟩ = some u) {k : Nat} (hk : k < l.length) :
    w.cell? ⟨b, off + k, none⟩ = some (.int .i64 l[k]) := by
  have := hc k hk 0 _ rfl
  simpa using this
theorem num_take {l : List Int} {k : Nat} (hk : k < l.length) : (l.take (k + 1)).map num = (l.take k).map num ++ [num l[k]] := by
  rw [List.take_succ_eq_append_getElem hk, List.map_append]; rfl
theorem own_far1 {α : Type} {B : Nat} {e : TypeId} {s : Nat} {cells : α → List Value} {w : World} {A : Option Addr} {c : Nat} {l : List α} (h : Own B e s cells w A c l) {k n d : Nat} (hk : (Value.slice A n d).ownBlock = some k) : B ≤ k := by
  obtain ⟨ad, h1, h2⟩ := own_some hk
  rcases h.far with ⟨h3, _⟩ | ⟨g, h3, h4, _⟩
  · rw [h3] at h1; cases h1
  · rw [h3] at h1; injection h1 with h1; rw [← h2, ← h1]; exact h4
set_option maxHeartbeats 2000000 in
theorem i_listText (l : List Int) (A : Option Addr) (c : Nat) (w : World) (hA : Sl w 1 intRow A l) (hl : l.length ≤ 1000) (hb : ∀ y ∈ l, -1000000000000 ≤ y ∧ y ≤ 1000000000000) (hT : Tab w) :
    Calls Tryz.prog 92 #[.slice A l.length c] w fun e w' => e = .returned (.string (listG l)) ∧ ∃ g, w' = plus w g := by
  have HT := hid hT
  have HB := hid hb
  have HA := hid hA
  clear hT hb hA
  by_cases h0 : l.length = 0
  · have hL : l = [] := List.eq_nil_of_length_eq_zero h0
    subst hL
    clear h0
    go_enter Tryz.func92, Tryz.ntmps92
    go_wp2_with fail
    go_ret
    exact ⟨rfl, by (repeat (first | with_reducible exact grew_refl _ | with_reducible assumption | with_reducible refine grew_split ?_ | with_reducible refine grew_mk ?_ | with_reducible refine grew_plus ?_ | with_reducible refine grew_alloc ?_ | with_reducible refine grew_drew ?_ | (with_reducible refine grew_set ?_ (by first | exact Nat.le_refl _ | omega | (simp [go_sem]; done) | (simp [go_sem]; omega)))))⟩
  have e0 : ((l.length : Int) == 0) = false := by simp; intro e; subst e; simp at h0
  have hne : l ≠ [] := by rintro rfl; simp at h0
  have HNE := hid hne
  clear h0 hne
  go_enter Tryz.func92, Tryz.ntmps92
  go_wp2_with fail
  go_loopw [3, 12] (fun o i wr => ∃ (k : Nat) (B : Option Addr) (d : Nat), k ≤ l.length ∧ i = .int .i64 k ∧ o = .slice B ((l.take k).map num).length d ∧ Own w.heap.size 9 1 strRow wr B d ((l.take k).map num) ∧ ∃ g, wr = plus w g) (fun _ i _ => l.length - (intOf i).toNat)
  case atStart => exact ⟨0, _, _, Nat.zero_le _, rfl, rfl, Own.newIn (o := .cells #[] 9) (by (repeat (first | with_reducible exact grew_refl _ | with_reducible assumption | with_reducible refine grew_split ?_ | with_reducible refine grew_mk ?_ | with_reducible refine grew_plus ?_ | with_reducible refine grew_alloc ?_ | with_reducible refine grew_drew ?_ | (with_reducible refine grew_set ?_ (by first | exact Nat.le_refl _ | omega | (simp [go_sem]; done) | (simp [go_sem]; omega)))))) rfl rfl (Nat.le_refl _), by (repeat (first | with_reducible exact grew_refl _ | with_reducible assumption | with_reducible refine grew_split ?_ | with_reducible refine grew_mk ?_ | with_reducible refine grew_plus ?_ | with_reducible refine grew_alloc ?_ | with_reducible refine grew_drew ?_ | (with_reducible refine grew_set ?_ (by first | exact Nat.le_refl _ | omega | (simp [go_sem]; done) | (simp [go_sem]; omega)))))⟩
  case round =>
    obtain ⟨k, B, d, hk, rfl, rfl, hO, hg⟩ := hrel
    have HO := hid hO
    have HG := hid hg
    clear hO hg
    by_cases hlt : k < l.length
    · obtain ⟨b, off, hAe, hb, hc⟩ := (HA.out.grew HG.out).at_ hlt
      subst hAe
      have hc0 := icells' hc hlt
      obtain ⟨y0, y1⟩ := HB.out _ (List.getElem_mem hlt)
      have HS := hid (num_take hlt)
      have hk0 : (0 : Int) ≤ (k : Int) := by omega
      have hk1 : (k : Int) < (l.length : Int) := by omega
      generalize l[k] = y at hc0 y0 y1 HS
      have hll : ((l.take k).map num).length = k := by simp; omega
      have HLL := hid hll
      clear hc hll
      go_wp2_with fail
      refine (i_Itoa y _ (by omega) (by omega) (HT.out.grew (grew_two' HG.out (by (repeat (first | with_reducible exact grew_refl _ | with_reducible assumption | with_reducible refine grew_split ?_ | with_reducible refine grew_mk ?_ | with_reducible refine grew_plus ?_ | with_reducible refine grew_alloc ?_ | with_reducible refine grew_drew ?_ | (with_reducible refine grew_set ?_ (by first | exact Nat.le_refl _ | omega | (simp [go_sem]; done) | (simp [go_sem]; omega))))))))).mono ?_
      (rintro e w' ⟨rfl, gx, rfl⟩)
      have hg := HG.out
      have hwz := (below_of_grew hg).size
      go_wp2_with (at_builtin; go_loud (refine wpList_appB (B := w.heap.size) rfl _ _ _ rfl 9 1 16 _ Tryz.underlying41 str_info rfl (by omega) (by omega) B d ((l.take k).map num) k HLL.out.symm rfl (HO.out.grew (by (repeat (first | with_reducible exact grew_refl _ | with_reducible assumption | with_reducible refine grew_split ?_ | with_reducible refine grew_mk ?_ | with_reducible refine grew_plus ?_ | with_reducible refine grew_alloc ?_ | with_reducible refine grew_drew ?_ | (with_reducible refine grew_set ?_ (by first | exact Nat.le_refl _ | omega | (simp [go_sem]; done) | (simp [go_sem]; omega))))))) (by simp [go_sem]; omega) (by rw [HLL.out]; omega) _ (num y) _ rfl rfl (by intro j u hj; match j, hj with | 0, hj => simp [strRow] at hj; subst hj; simp [Addr.add, go_sem]) (by simp [strRow, Value.oneCell']) ?_); intro A1 c1 w1 hO1 hg1 hat1)
      have hw1 := grew_grown (w0 := w) (by (repeat (first | with_reducible exact grew_refl _ | with_reducible assumption | with_reducible refine grew_split ?_ | with_reducible refine grew_mk ?_ | with_reducible refine grew_plus ?_ | with_reducible refine grew_alloc ?_ | with_reducible refine grew_drew ?_ | (with_reducible refine grew_set ?_ (by first | exact Nat.le_refl _ | omega | (simp [go_sem]; done) | (simp [go_sem]; omega)))))) hg1 (fun k hk => own_far1 HO.out hk)
      clear hg1 hat1
      go_roundw
      case rel => exact ⟨k + 1, A1, c1, by omega, by go_num, by rw [HS.out]; exact vsl (by rw [List.length_append, HLL.out]; rfl), by rw [HS.out]; exact hO1, hw1⟩
      case measure => simp [intOf]; omega
    · obtain rfl : k = l.length := by omega
      rw [List.take_length] at HO ⊢
      have hpos : 0 < (l.map num).length := by
        rw [List.length_map]
        exact Nat.pos_of_ne_zero (fun h => HNE.out (List.eq_nil_of_length_eq_zero h))
      obtain ⟨b, cur, hBe, hbw, hbk, hcap, hcm, hcz, hF⟩ := HO.out.open_ strRow_len hpos
      have hlt := hbk.lt
      subst hBe
      have HS := hid (Sl.of_blk hbk hF)
      have HCAP := hid hcap
      have HLEN : Hid ((l.map num).length = l.length) := hid (by simp)
      have hgz := listG_size HB.out
      have HJ := hid (listG_join HNE.out)
      have HJL := hid (listG_len HNE.out)
      have hll : ((l.length : Nat) : Int) = ((l.map num).length : Nat) := by simp
      clear hcap hcm hcz hF hbk hpos hll
      go_wp2_with fail
      rw [← HLEN.out]
      refine (Tryz.strings_Join b 0 d (l.map num) ⟨#[32]⟩ _ (fun j x hx => ?_) hlt (by rw [HLEN.out]; omega) HCAP.out (by rw [show (ByteArray.mk #[32]).data.toList = [32] from rfl, HJL.out]; omega)).mono ?_
      · obtain ⟨hj, rfl⟩ := List.getElem?_eq_some_iff.1 hx
        have h := HS.out.read j hj 0 _ rfl
        simpa using h
      rintro e w' ⟨rfl, hbl⟩
      obtain ⟨gx, rfl⟩ := below_grew hbl
      clear hbl
      have hg := HG.out
      go_wp2_with fail
      go_ret
      exact ⟨ret_str (by simpa using HJ.out), by (repeat (first | with_reducible exact grew_refl _ | with_reducible assumption | with_reducible refine grew_split ?_ | with_reducible refine grew_mk ?_ | with_reducible refine grew_plus ?_ | with_reducible refine grew_alloc ?_ | with_reducible refine grew_drew ?_ | (with_reducible refine grew_set ?_ (by first | exact Nat.le_refl _ | omega | (simp [go_sem]; done) | (simp [go_sem]; omega)))))⟩
theorem listG_take {l : List Int} {k : Nat} (hk : k < l.length) (h0 : 0 < k) : listG (l.take (k + 1)) = listG (l.take k) ++ bs [32] ++ num l[k] := by
  rw [List.take_succ_eq_append_getElem hk]
  refine listG_snoc ?_ _
  intro e
  have := congrArg List.length e
  rw [List.length_take, List.length_nil] at this
  omega
theorem listG_one {l : List Int} (hl : 0 < l.length) : listG (l.take 1) = num l[0] := by
  cases l with
  | nil => simp at hl
  | cons x r => rfl
set_option maxHeartbeats 2000000 in
theorem s_l28List (l : List Int) (A : Option Addr) (c : Nat) (w : World) (hA : Sl w 1 intRow A l) (hl : l.length ≤ 1000) (hb : ∀ y ∈ l, -1000000000000 ≤ y ∧ y ≤ 1000000000000) :
    Calls Tryz.prog 101 #[.slice A l.length c] w fun e w' => e = .returned (.string (listG l)) ∧ ∃ g, w' = plus w g := by
  have HB := hid hb
  have HA := hid hA
  clear hb hA
  by_cases h0 : l.length = 0
  · have hL : l = [] := List.eq_nil_of_length_eq_zero h0
    subst hL
    clear h0
    go_enter Tryz.func101, Tryz.ntmps101
    go_wp2_with fail
    go_ret
    exact ⟨rfl, by (repeat (first | with_reducible exact grew_refl _ | with_reducible assumption | with_reducible refine grew_split ?_ | with_reducible refine grew_mk ?_ | with_reducible refine grew_plus ?_ | with_reducible refine grew_alloc ?_ | with_reducible refine grew_drew ?_ | (with_reducible refine grew_set ?_ (by first | exact Nat.le_refl _ | omega | (simp [go_sem]; done) | (simp [go_sem]; omega)))))⟩
  have e0 : ((l.length : Int) == 0) = false := by simp; intro e; subst e; simp at h0
  have hpos : 0 < l.length := by omega
  have hposI : (0 : Int) < (l.length : Int) := by omega
  clear h0
  obtain ⟨b, off, hAe, hb, hc⟩ := HA.out.at_ hpos
  subst hAe
  have hc0 := icells' hc hpos
  simp only [Nat.add_zero] at hc0
  obtain ⟨y0, y1⟩ := HB.out _ (List.getElem_mem hpos)
  have H1 := hid (listG_one hpos)
  generalize l[0] = y at hc0 y0 y1 H1
  clear hc
  go_enter Tryz.func101, Tryz.ntmps101
  go_wp2_with fail
  refine (s_l1Num y _ (by omega) (by omega)).mono ?_
  (rintro e w' ⟨rfl, gx, rfl⟩)
  go_wp2_with fail
  go_loopw [3, 4] (fun o i wr => ∃ k : Nat, 1 ≤ k ∧ k ≤ l.length ∧ i = .int .i64 k ∧ o = .string (listG (l.take k)) ∧ ∃ g, wr = plus w g) (fun _ i _ => l.length - (intOf i).toNat)
  case atStart => exact ⟨1, Nat.le_refl _, hpos, rfl, by rw [H1.out], by (repeat (first | with_reducible exact grew_refl _ | with_reducible assumption | with_reducible refine grew_split ?_ | with_reducible refine grew_mk ?_ | with_reducible refine grew_plus ?_ | with_reducible refine grew_alloc ?_ | with_reducible refine grew_drew ?_ | (with_reducible refine grew_set ?_ (by first | exact Nat.le_refl _ | omega | (simp [go_sem]; done) | (simp [go_sem]; omega)))))⟩
  case round =>
    obtain ⟨k, hk1, hk, rfl, rfl, g, rfl⟩ := hrel
    have hgz := listG_size (l := l.take k) (fun y hy => HB.out y (List.mem_of_mem_take hy))
    have hgz2 : (listG (l.take k)).size ≤ 15 * 1000 + 4 := by rw [List.length_take] at hgz; omega
    clear hgz
    by_cases hlt : k < l.length
    · obtain ⟨b', off', hAe, hb', hc⟩ := HA.out.at_ hlt
      injection hAe with hAe
      injection hAe with h1 h2
      subst h1 h2
      have hc1 := icells' hc hlt
      obtain ⟨x0, x1⟩ := HB.out _ (List.getElem_mem hlt)
      have HS := hid (listG_take hlt hk1)
      have hi0 : (0 : Int) ≤ (k : Int) := by omega
      have hi1 : (k : Int) < (l.length : Int) := by omega
      generalize l[k] = x at hc1 x0 x1 HS
      have z1 := num_size x (by omega) (by omega)
      clear hc
      go_wp2_with fail
      refine (s_l1Num x _ (by omega) (by omega)).mono ?_
      (rintro e w' ⟨rfl, gx, rfl⟩)
      go_wp2_with fail
      go_roundw
      case rel => exact ⟨k + 1, by omega, by omega, by go_num, by rw [HS.out]; rfl, by (repeat (first | with_reducible exact grew_refl _ | with_reducible assumption | with_reducible refine grew_split ?_ | with_reducible refine grew_mk ?_ | with_reducible refine grew_plus ?_ | with_reducible refine grew_alloc ?_ | with_reducible refine grew_drew ?_ | (with_reducible refine grew_set ?_ (by first | exact Nat.le_refl _ | omega | (simp [go_sem]; done) | (simp [go_sem]; omega)))))⟩
      case measure => simp [intOf]; omega
    · obtain rfl : k = l.length := by omega
      rw [List.take_length]
      go_wp2_with fail
      go_ret
      exact ⟨rfl, by (repeat (first | with_reducible exact grew_refl _ | with_reducible assumption | with_reducible refine grew_split ?_ | with_reducible refine grew_mk ?_ | with_reducible refine grew_plus ?_ | with_reducible refine grew_alloc ?_ | with_reducible refine grew_drew ?_ | (with_reducible refine grew_set ?_ (by first | exact Nat.le_refl _ | omega | (simp [go_sem]; done) | (simp [go_sem]; omega)))))⟩
end Go.Proofs.YtecghfcgahgfiaaGreatDoor
/- How many lines are possible: the package's own walk, over the sort of Go's library. -/
namespace Go.Proofs.YtecghfcgahgfiaaGreatDoor
open Go.RowKit Go.Sort

theorem openTo_yes {v : DayC} {k : Nat} (hk : k < v.lines.length) (h : openB v k = true) : openTo v (k + 1) = openTo v k ++ [v.lines[k].minutes] := by simp [openTo, h, mAt, hk]
theorem openTo_no {v : DayC} {k : Nat} (h : openB v k = false) : openTo v (k + 1) = openTo v k := by simp [openTo, h]
theorem openB_eq {v : DayC} {k : Nat} (hk : k < v.lines.length) : openB v k = (!v.lines[k].done && decide ((k : Int) + 1 ≠ v.line)) := by simp [openB, doneAt, hk]
theorem open_one {v : DayC} (hv : v.ok = true) {x : Int} : ∀ k, k ≤ v.lines.length → x ∈ openTo v k → 1 ≤ x ∧ x ≤ 300 := by
  intro k
  induction k with
  | zero => simp [openTo]
  | succ k ih =>
    intro hk hx
    have hlt : k < v.lines.length := by omega
    simp only [openTo] at hx
    split at hx
    · rcases List.mem_append.1 hx with hx | hx
      · exact ih (by omega) hx
      · simp [mAt, hlt] at hx
        have := DayC.mins hv hlt
        omega
    · exact ih (by omega) hx
theorem sOf_one {v : DayC} (hv : v.ok = true) {k : Nat} (hk : k < (sOf v).length) : 1 ≤ (sOf v)[k] ∧ (sOf v)[k] ≤ 300 :=
  open_one hv _ (Nat.le_refl _) ((srt_perm _).mem_iff.1 (List.getElem_mem hk))
theorem greedy_bounds {v : DayC} (hv : v.ok = true) (L : Int) (h0 : 0 ≤ L) : ∀ k, 0 ≤ (greedy (sOf v) L k).1 ∧ (greedy (sOf v) L k).1 ≤ k ∧ 0 ≤ (greedy (sOf v) L k).2 ∧ (greedy (sOf v) L k).2 ≤ L := by
  intro k
  induction k with
  | zero => simp [greedy]; exact h0
  | succ k ih =>
    simp only [greedy]
    split
    · rename_i hk
      have := sOf_one hv hk
      split <;> (try simp only) <;> omega
    · omega
theorem greedy_yes {S : List Int} {L : Int} {k : Nat} (hk : k < S.length) (h : S[k] ≤ (greedy S L k).2) : greedy S L (k + 1) = ((greedy S L k).1 + 1, (greedy S L k).2 - S[k]) := by simp [greedy, hk, h]
theorem greedy_no {S : List Int} {L : Int} {k : Nat} (hk : k < S.length) (h : ¬ S[k] ≤ (greedy S L k).2) : greedy S L (k + 1) = greedy S L k := by simp [greedy, hk, h]
/-- The library's sort, over a list of the call's own. -/
theorem i_sort (w0 w : World) (A : Option Addr) (c : Nat) (l : List Int) (hO : OwnF w0.heap.size 3 1 intRow w A l) (hw : ∃ g, w = plus w0 g) (hl : l.length ≤ 1048576) :
    Calls Tryz.prog 117 #[.slice A l.length c] w fun e w' => e = .returned (.tuple #[]) ∧ Sl w' 1 intRow A (srt l) ∧ ∃ g, w' = plus w0 g := by
  rcases OwnF.split hO with rfl | ⟨hpos, g, cs, rfl, hb, hB, hs, hF⟩
  · exact (Tryz.slices_Sort_int_none A c w).mono fun e w' ⟨he, hw'⟩ => ⟨he, .inl (by simp [srt]), by rw [hw']; exact hw⟩
  · have hH : Holds (Value.int .i64) w g 0 l.toArray := by
      intro j hj
      have hj' : j < l.length := by simpa using hj
      refine ⟨?_, hB.frozen _⟩
      rw [hB.cell, Nat.zero_add]
      have := hF j hj' hj' 0 (.int .i64 l[j]) rfl
      rw [show j * 1 + 0 = j by omega] at this
      rw [this]
      simp [hj']
    refine (Tryz.slices_Sort_int g 0 c l w hH hB.lt (by omega)).mono fun e w' h => ?_
    obtain ⟨he, n, os, rfl⟩ := h
    have hsl : (srt l).length = l.length := (srt_perm l).length_eq
    refine ⟨he, .inr ⟨g, 0, rfl, ?_, ?_⟩, ?_⟩
    · have := hB.lt
      simp [Go.Sort.grow, putRow, mapBlock, Go.Sort.ahead]; omega
    · intro i hi j u hu
      have hj : j = 0 := by have := (List.getElem?_eq_some_iff.1 hu).1; simp [intRow] at this; omega
      subst hj
      have hu' : u = .int .i64 (srt l)[i] := by simpa [intRow] using hu.symm
      subst hu'
      rw [cell?_grow _ _ _ (by have := hB.lt; simpa [putRow, mapBlock, Go.Sort.ahead] using this)]
      have := cell?_putRow (Value.int .i64) (Go.Sort.ahead w n) g 0 l.toArray (srt l).toArray hH (by simp [hsl]) i (by simpa using hi)
      rw [show 0 + i * 1 + 0 = 0 + i by omega]
      rw [show (l.mergeSort fun x y => decide (x ≤ y)) = srt l from rfl, this]
      simp [hi]
    · refine plus_of_below ?_
      have hbw := below_of_grew hw
      refine ⟨hbw.os, hbw.tape, hbw.output, ?_, ?_⟩
      · have := hbw.size
        simp [Go.Sort.grow, putRow, mapBlock, Go.Sort.ahead]; omega
      · intro k hk
        rw [heap_grow_old _ _ (by have := hbw.size; simp [putRow, mapBlock, Go.Sort.ahead]; omega)]
        rw [← hbw.block k hk]
        simp only [putRow, mapBlock, Go.Sort.ahead, Array.getElem?_modify]
        rw [if_neg (by omega)]
set_option maxHeartbeats 2000000 in
theorem i_MostLines (v : DayV) (w : World) (hv : v.At w) :
    Calls Tryz.prog 95 #[v.val] w fun e w' => e = .returned (.tuple #[.int .i64 (mostF v.core).1, .bool (mostF v.core).2]) ∧ ∃ g, w' = plus w g := by
  have HV := hid hv
  cases ho : v.core.ok
  · have HF : Hid (mostF v.core = (0, false)) := hid (by simp [mostF, ho])
    clear hv
    go_enter Tryz.func95, Tryz.ntmps95
    go_wp2_with (go_at_call 42; refine (i_IsSurveyDay v _ ho _ (HV.out.alloc _)).mono ?_; (rintro e w' ⟨rfl, gx, rfl⟩))
    go_ret2
    exact ⟨ret_ib (by rw [HF.out]) (by rw [HF.out]), by (repeat (first | with_reducible exact grew_refl _ | with_reducible assumption | with_reducible refine grew_split ?_ | with_reducible refine grew_mk ?_ | with_reducible refine grew_plus ?_ | with_reducible refine grew_alloc ?_ | with_reducible refine grew_drew ?_ | (with_reducible refine grew_set ?_ (by first | exact Nat.le_refl _ | omega | (simp [go_sem]; done) | (simp [go_sem]; omega)))))⟩
  · have HF : Hid (mostF v.core = ((greedy (sOf v.core) (1440 - v.core.minute) (sOf v.core).length).1, true)) := hid (by simp [mostF, ho])
    have HO := hid ho
    clear hv
    go_enter Tryz.func95, Tryz.ntmps95
    go_wp2_with (go_at_call 42; refine (i_IsSurveyDay v _ ho _ (HV.out.alloc _)).mono ?_; (rintro e w' ⟨rfl, gx, rfl⟩))
    have hp := HV.out.ln
    have hb := DayC.bounds ho
    obtain ⟨⟨minute, state, lines, line, since, cast, fuel⟩, A, c⟩ := v
    simp only at hp hb HF HO ⊢
    obtain ⟨b1, b2, b3, b4, b5, b6, b7, b8, b9, b10, b11, b12, b13, b14⟩ := hb
    clear ho
    generalize hD : (⟨minute, state, lines, line, since, cast, fuel⟩ : DayC) = D at HF HO
    have hDl : D.lines = lines := by rw [← hD]
    have HDL := hid hD
    have HN := hid (openTo_len D lines.length)
    go_loopw [4, 18, 6] (fun a i _ wr => ∃ (k : Nat) (A' : Option Addr) (c' : Nat), k ≤ lines.length ∧ i = .int .i64 k ∧ a = .slice A' (openTo D k).length c' ∧ Own (w.alloc (.cells #[.int .i64 minute, .int .i64 state, .slice A lines.length c, .int .i64 line, .int .i64 since, .int .i64 cast, .int .i64 fuel] 26)).heap.size 3 1 intRow wr A' c' (openTo D k) ∧ (∃ g, wr = plus (w.alloc (.cells #[.int .i64 minute, .int .i64 state, .slice A lines.length c, .int .i64 line, .int .i64 since, .int .i64 cast, .int .i64 fuel] 26)) g)) (fun _ i _ _ => lines.length - (intOf i).toNat)
    case atStart => exact ⟨0, _, _, Nat.zero_le _, rfl, rfl, Own.new rfl (by simp [go_sem]) (by simp [go_sem]), by (repeat (first | with_reducible exact grew_refl _ | with_reducible assumption | with_reducible refine grew_split ?_ | with_reducible refine grew_mk ?_ | with_reducible refine grew_plus ?_ | with_reducible refine grew_alloc ?_ | with_reducible refine grew_drew ?_ | (with_reducible refine grew_set ?_ (by first | exact Nat.le_refl _ | omega | (simp [go_sem]; done) | (simp [go_sem]; omega)))))⟩
    case round =>
      obtain ⟨k, A', c', hk, rfl, rfl, hO, g, rfl⟩ := hrel
      have HOw := hid hO
      have hln := openTo_len D k
      clear hO
      by_cases hlt : k < lines.length
      · obtain ⟨b, off, rfl, hb, hc⟩ := hp.at_ hlt
        obtain ⟨hc0, hc1⟩ := lcells hc hlt
        have heq : openB D k = (!lines[k].done && decide ((k : Int) + 1 ≠ line)) := by subst hD; exact openB_eq (v := ⟨minute, state, lines, line, since, cast, fuel⟩) hlt
        clear hc hp hDl hD
        cases hd : openB D k
        · have HT := hid (openTo_no hd)
          rw [hd] at heq
          cases h1 : lines[k].done
          · have h2 : ((k : Int) + 1 != line) = false := by simp [h1] at heq; simp; exact heq
            clear heq hd
            go_wp2_with fail
            go_roundw
            case rel => exact ⟨k + 1, _, _, by omega, by go_num, vsl (by rw [HT.out]), by rw [HT.out]; exact HOw.out.grew (by (repeat (first | with_reducible exact grew_refl _ | with_reducible assumption | with_reducible refine grew_split ?_ | with_reducible refine grew_mk ?_ | with_reducible refine grew_plus ?_ | with_reducible refine grew_alloc ?_ | with_reducible refine grew_drew ?_ | (with_reducible refine grew_set ?_ (by first | exact Nat.le_refl _ | omega | (simp [go_sem]; done) | (simp [go_sem]; omega)))))), by (repeat (first | with_reducible exact grew_refl _ | with_reducible assumption | with_reducible refine grew_split ?_ | with_reducible refine grew_mk ?_ | with_reducible refine grew_plus ?_ | with_reducible refine grew_alloc ?_ | with_reducible refine grew_drew ?_ | (with_reducible refine grew_set ?_ (by first | exact Nat.le_refl _ | omega | (simp [go_sem]; done) | (simp [go_sem]; omega)))))⟩
            case measure => simp [intOf]; omega
          · clear heq hd
            go_wp2_with fail
            go_roundw
            case rel => exact ⟨k + 1, _, _, by omega, by go_num, vsl (by rw [HT.out]), by rw [HT.out]; exact HOw.out.grew (by (repeat (first | with_reducible exact grew_refl _ | with_reducible assumption | with_reducible refine grew_split ?_ | with_reducible refine grew_mk ?_ | with_reducible refine grew_plus ?_ | with_reducible refine grew_alloc ?_ | with_reducible refine grew_drew ?_ | (with_reducible refine grew_set ?_ (by first | exact Nat.le_refl _ | omega | (simp [go_sem]; done) | (simp [go_sem]; omega)))))), by (repeat (first | with_reducible exact grew_refl _ | with_reducible assumption | with_reducible refine grew_split ?_ | with_reducible refine grew_mk ?_ | with_reducible refine grew_plus ?_ | with_reducible refine grew_alloc ?_ | with_reducible refine grew_drew ?_ | (with_reducible refine grew_set ?_ (by first | exact Nat.le_refl _ | omega | (simp [go_sem]; done) | (simp [go_sem]; omega)))))⟩
            case measure => simp [intOf]; omega
        · have HT : Hid (openTo D (k + 1) = openTo D k ++ [lines[k].minutes]) := hid (by have := HDL.out; subst this; exact openTo_yes (v := ⟨minute, state, lines, line, since, cast, fuel⟩) hlt hd)
          rw [hd] at heq
          have h1 : lines[k].done = false := by cases h : lines[k].done <;> simp [h] at heq ⊢
          have h2 : ((k : Int) + 1 != line) = true := by simp [h1] at heq; simp; exact heq
          clear heq hd
          go_wp2_with (at_builtin; go_loud (refine wpList_app rfl _ _ _ rfl 3 1 8 _ Tryz.underlying47 int_info rfl (by omega) (by omega) _ _ _ rfl (HOw.out.grew (by (repeat (first | with_reducible exact grew_refl _ | with_reducible assumption | with_reducible refine grew_split ?_ | with_reducible refine grew_mk ?_ | with_reducible refine grew_plus ?_ | with_reducible refine grew_alloc ?_ | with_reducible refine grew_drew ?_ | (with_reducible refine grew_set ?_ (by first | exact Nat.le_refl _ | omega | (simp [go_sem]; done) | (simp [go_sem]; omega))))))) (by (repeat (first | with_reducible exact grew_refl _ | with_reducible assumption | with_reducible refine grew_split ?_ | with_reducible refine grew_mk ?_ | with_reducible refine grew_plus ?_ | with_reducible refine grew_alloc ?_ | with_reducible refine grew_drew ?_ | (with_reducible refine grew_set ?_ (by first | exact Nat.le_refl _ | omega | (simp [go_sem]; done) | (simp [go_sem]; omega)))))) (by omega) _ lines[k].minutes _ rfl rfl (by intro j u hj; match j, hj with | 0, hj => simp [intRow] at hj; subst hj; simp [Addr.add, go_sem]) (by simp [intRow, Value.oneCell']) ?_); intro A1 c1 g1 HO1)
          go_roundw
          case rel => exact ⟨k + 1, _, _, by omega, by go_num, vsl (by rw [HT.out]; simp), by rw [HT.out]; exact HO1.grew (by (repeat (first | with_reducible exact grew_refl _ | with_reducible assumption | with_reducible refine grew_split ?_ | with_reducible refine grew_mk ?_ | with_reducible refine grew_plus ?_ | with_reducible refine grew_alloc ?_ | with_reducible refine grew_drew ?_ | (with_reducible refine grew_set ?_ (by first | exact Nat.le_refl _ | omega | (simp [go_sem]; done) | (simp [go_sem]; omega)))))), by (repeat (first | with_reducible exact grew_refl _ | with_reducible assumption | with_reducible refine grew_split ?_ | with_reducible refine grew_mk ?_ | with_reducible refine grew_plus ?_ | with_reducible refine grew_alloc ?_ | with_reducible refine grew_drew ?_ | (with_reducible refine grew_set ?_ (by first | exact Nat.le_refl _ | omega | (simp [go_sem]; done) | (simp [go_sem]; omega)))))⟩
          case measure => simp [intOf]; omega
      · obtain rfl : k = lines.length := by omega
        clear hp
        go_wp2_with fail
        refine (i_sort (w.alloc (.cells #[.int .i64 minute, .int .i64 state, .slice A lines.length c, .int .i64 line, .int .i64 since, .int .i64 cast, .int .i64 fuel] 26)) _ A' c' (openTo D lines.length) ((HOw.out.f intRow_len).grew (by (repeat (first | with_reducible exact grew_refl _ | with_reducible assumption | with_reducible refine grew_split ?_ | with_reducible refine grew_mk ?_ | with_reducible refine grew_plus ?_ | with_reducible refine grew_alloc ?_ | with_reducible refine grew_drew ?_ | (with_reducible refine grew_set ?_ (by first | exact Nat.le_refl _ | omega | (simp [go_sem]; done) | (simp [go_sem]; omega))))))) (by (repeat (first | with_reducible exact grew_refl _ | with_reducible assumption | with_reducible refine grew_split ?_ | with_reducible refine grew_mk ?_ | with_reducible refine grew_plus ?_ | with_reducible refine grew_alloc ?_ | with_reducible refine grew_drew ?_ | (with_reducible refine grew_set ?_ (by first | exact Nat.le_refl _ | omega | (simp [go_sem]; done) | (simp [go_sem]; omega)))))) (by omega)).mono ?_
        rintro e w2 ⟨rfl, hS, hg2⟩
        obtain ⟨g2, rfl⟩ := hg2
        have hmin : D.minute = minute := by rw [← hD]
        rw [show openTo D lines.length = openTo D D.lines.length by rw [hDl]] at hS ⊢
        have hSl : (openTo D D.lines.length).length = (sOf D).length := (srt_perm _).length_eq.symm
        have HSl := hid hSl
        have HS := hid (show Sl (plus (w.alloc (.cells #[.int .i64 minute, .int .i64 state, .slice A lines.length c, .int .i64 line, .int .i64 since, .int .i64 cast, .int .i64 fuel] 26)) g2) 1 intRow A' (sOf D) from hS)
        have HM := hid hmin
        have hs8 : (sOf D).length ≤ 8 := by have := sOf_len D; rw [hDl] at this; omega
        clear hS hSl hDl hD hmin hln
        rw [HSl.out]
        go_wp2_with fail
        (refine wp_region_calm (by kernel_rfl) (by kernel_rfl) ?_; (repeat' (first | go_big_quiet_step (fail) | (refine wpQuiet_step (fun K hK => ?_); go_simp; go_ite <;> go_simp <;> (first | (refine hK _ ?_; clear hK K) | (apply Exists.intro; refine ⟨fun _ => ?_, hK _ ?_⟩; (fail); clear hK K))))); all_goals (refine wpQuiet_nil ?_; intro _ hw'; obtain ⟨gq, hw''⟩ := hw'; subst hw''))
        go_wp2_with fail
        have GB := hid (fun k => greedy_bounds HO.out (1440 - minute) (by omega) k)
        go_loopw [7, 8, 46, 10] (fun cn lf i _ wr => ∃ k : Nat, k ≤ (sOf D).length ∧ i = .int .i64 k ∧ cn = .int .i64 (greedy (sOf D) (1440 - minute) k).1 ∧ lf = .int .i64 (greedy (sOf D) (1440 - minute) k).2 ∧ (∃ g, wr = plus (plus (w.alloc (.cells #[.int .i64 minute, .int .i64 state, .slice A lines.length c, .int .i64 line, .int .i64 since, .int .i64 cast, .int .i64 fuel] 26)) g2) g)) (fun _ _ i _ _ => (sOf D).length - (intOf i).toNat)
        case atStart => exact ⟨0, Nat.zero_le _, rfl, rfl, rfl, by (repeat (first | with_reducible exact grew_refl _ | with_reducible assumption | with_reducible refine grew_split ?_ | with_reducible refine grew_mk ?_ | with_reducible refine grew_plus ?_ | with_reducible refine grew_alloc ?_ | with_reducible refine grew_drew ?_ | (with_reducible refine grew_set ?_ (by first | exact Nat.le_refl _ | omega | (simp [go_sem]; done) | (simp [go_sem]; omega)))))⟩
        case round =>
          obtain ⟨k, hk, rfl, rfl, rfl, hg⟩ := hrel
          have HS3 := hid (HS.out.grew hg)
          have HG := hid hg
          obtain ⟨p0, p1, p2, p3⟩ := GB.out k
          by_cases hlt : k < (sOf D).length
          · obtain ⟨b, off, rfl, hb, hc⟩ := HS3.out.at_ hlt
            have hc0 := icells hc hlt
            obtain ⟨m0, m1⟩ := sOf_one HO.out hlt
            clear hc hg
            by_cases hle : (sOf D)[k] ≤ (greedy (sOf D) (1440 - minute) k).2
            · have HY := hid (greedy_yes hlt hle)
              go_wp2_with fail
              go_roundw
              case rel => exact ⟨k + 1, by omega, by go_num, vint (by rw [HY.out]), vint (by rw [HY.out]), by have hg := HG.out; (repeat (first | with_reducible exact grew_refl _ | with_reducible assumption | with_reducible refine grew_split ?_ | with_reducible refine grew_mk ?_ | with_reducible refine grew_plus ?_ | with_reducible refine grew_alloc ?_ | with_reducible refine grew_drew ?_ | (with_reducible refine grew_set ?_ (by first | exact Nat.le_refl _ | omega | (simp [go_sem]; done) | (simp [go_sem]; omega)))))⟩
              case measure => simp [intOf]; omega
            · have HY := hid (greedy_no hlt hle)
              go_wp2_with fail
              go_roundw
              case rel => exact ⟨k + 1, by omega, by go_num, vint (by rw [HY.out]), vint (by rw [HY.out]), by have hg := HG.out; (repeat (first | with_reducible exact grew_refl _ | with_reducible assumption | with_reducible refine grew_split ?_ | with_reducible refine grew_mk ?_ | with_reducible refine grew_plus ?_ | with_reducible refine grew_alloc ?_ | with_reducible refine grew_drew ?_ | (with_reducible refine grew_set ?_ (by first | exact Nat.le_refl _ | omega | (simp [go_sem]; done) | (simp [go_sem]; omega)))))⟩
              case measure => simp [intOf]; omega
          · obtain rfl : k = (sOf D).length := by omega
            clear hg
            go_wp2_with fail
            go_ret2
            have hm := HM.out
            have hg := HG.out
            exact ⟨ret_ib (by rw [HDL.out, HF.out]) (by rw [HDL.out, HF.out]), by obtain ⟨_, rfl⟩ := hg; (repeat (first | with_reducible exact grew_refl _ | with_reducible assumption | with_reducible refine grew_split ?_ | with_reducible refine grew_mk ?_ | with_reducible refine grew_plus ?_ | with_reducible refine grew_alloc ?_ | with_reducible refine grew_drew ?_ | (with_reducible refine grew_set ?_ (by first | exact Nat.le_refl _ | omega | (simp [go_sem]; done) | (simp [go_sem]; omega)))))⟩
end Go.Proofs.YtecghfcgahgfiaaGreatDoor
