import Derived.Test.YtecghfcgahgfiaaGreatDoorP11
import Derived.Test.YtecghfcgahgfiaaGreatDoorP8
import Derived.Deep.RegionLaw
import Derived.Test.YtecghfcgahgfiaaGreatDoorP5
/- The lines to do, in both packages. -/
namespace Go.Proofs.YtecghfcgahgfiaaGreatDoor
open Go.RowKit

def todoTo (l : List LineR) : Nat → List Int
  | 0 => []
  | k + 1 => if doneAt l k then todoTo l k else todoTo l k ++ [(k : Int) + 1]
theorem todoTo_len (l : List LineR) : ∀ k, (todoTo l k).length ≤ k := by
  intro k
  induction k with
  | zero => simp [todoTo]
  | succ k ih => simp only [todoTo]; split <;> (try simp) <;> omega
theorem todoTo_done {l : List LineR} {k : Nat} (hk : k < l.length) (h : l[k].done = true) : todoTo l (k + 1) = todoTo l k := by simp [todoTo, doneAt, hk, h]
theorem todoTo_open {l : List LineR} {k : Nat} (hk : k < l.length) (h : l[k].done = false) : todoTo l (k + 1) = todoTo l k ++ [(k : Int) + 1] := by simp [todoTo, doneAt, hk, h]
def todoF (v : DayC) : List Int := if v.ok then todoTo v.lines v.lines.length else []
theorem todoF_len (v : DayC) : (todoF v).length ≤ 8 := by
  unfold todoF
  split
  · rename_i h
    have := todoTo_len v.lines v.lines.length
    have := DayC.bounds h
    omega
  · simp
set_option maxHeartbeats 2000000 in
theorem i_LinesToDo (v : DayV) (w : World) (hv : v.At w) :
    Calls Tryz.prog 91 #[v.val] w fun e w' => (∃ A c, e = .returned (.tuple #[.slice A (todoF v.core).length c, .bool v.core.ok]) ∧ Own w.heap.size 3 1 intRow w' A c (todoF v.core)) ∧ ∃ g, w' = plus w g := by
  have HV := hid hv
  cases ho : v.core.ok
  · have HF : Hid (todoF v.core = []) := hid (by simp [todoF, ho])
    clear hv
    go_enter Tryz.func91, Tryz.ntmps91
    go_wp2_with (go_at_call 42; refine (i_IsSurveyDay v _ ho _ (HV.out.alloc _)).mono ?_; (rintro e w' ⟨rfl, gx, rfl⟩))
    go_ret2
    exact ⟨⟨none, 0, by rw [HF.out]; rfl, by rw [HF.out]; exact Own.nil _ _ _ _ _⟩, by (repeat (first | with_reducible exact grew_refl _ | with_reducible assumption | with_reducible refine grew_split ?_ | with_reducible refine grew_mk ?_ | with_reducible refine grew_plus ?_ | with_reducible refine grew_alloc ?_ | with_reducible refine grew_drew ?_ | (with_reducible refine grew_set ?_ (by first | exact Nat.le_refl _ | omega | (simp [go_sem]; done) | (simp [go_sem]; omega)))))⟩
  · have HF : Hid (todoF v.core = todoTo v.core.lines v.core.lines.length) := hid (by simp [todoF, ho])
    clear hv
    go_enter Tryz.func91, Tryz.ntmps91
    go_wp2_with (go_at_call 42; refine (i_IsSurveyDay v _ ho _ (HV.out.alloc _)).mono ?_; (rintro e w' ⟨rfl, gx, rfl⟩))
    have hp := HV.out.ln
    have hb := DayC.bounds ho
    obtain ⟨⟨minute, state, lines, line, since, cast, fuel⟩, A, c⟩ := v
    simp only at hp hb HF ⊢
    obtain ⟨b1, b2, b3, b4, b5, b6, b7, b8, b9, b10, b11, b12, b13, b14⟩ := hb
    clear ho
    go_loopw [4, 14, 6] (fun a i _ wr => ∃ (k : Nat) (A' : Option Addr) (c' : Nat), k ≤ lines.length ∧ i = .int .i64 k ∧ a = .slice A' (todoTo lines k).length c' ∧ Own (w.alloc (.cells #[.int .i64 minute, .int .i64 state, .slice A lines.length c, .int .i64 line, .int .i64 since, .int .i64 cast, .int .i64 fuel] 26)).heap.size 3 1 intRow wr A' c' (todoTo lines k) ∧ (∃ g, wr = plus (w.alloc (.cells #[.int .i64 minute, .int .i64 state, .slice A lines.length c, .int .i64 line, .int .i64 since, .int .i64 cast, .int .i64 fuel] 26)) g)) (fun _ i _ _ => lines.length - (intOf i).toNat)
    case atStart => exact ⟨0, _, _, Nat.zero_le _, rfl, rfl, Own.new rfl (by simp [go_sem]) (by simp [go_sem]), by (repeat (first | with_reducible exact grew_refl _ | with_reducible assumption | with_reducible refine grew_split ?_ | with_reducible refine grew_mk ?_ | with_reducible refine grew_plus ?_ | with_reducible refine grew_alloc ?_ | with_reducible refine grew_drew ?_ | (with_reducible refine grew_set ?_ (by first | exact Nat.le_refl _ | omega | (simp [go_sem]; done) | (simp [go_sem]; omega)))))⟩
    case round =>
      obtain ⟨k, A', c', hk, rfl, rfl, hO, g, rfl⟩ := hrel
      have HO := hid hO
      clear hO
      by_cases hlt : k < lines.length
      · obtain ⟨b, off, rfl, hb, hc⟩ := hp.at_ hlt
        obtain ⟨hc0, hc1⟩ := lcells hc hlt
        have hln := todoTo_len lines k
        clear hc hp
        cases hd : lines[k].done
        · have HT := hid (todoTo_open hlt hd)
          go_wp2_with (at_builtin; go_loud (refine wpList_app rfl _ _ _ rfl 3 1 8 _ Tryz.underlying47 int_info rfl (by omega) (by omega) _ _ _ rfl (HO.out.grew (by (repeat (first | with_reducible exact grew_refl _ | with_reducible assumption | with_reducible refine grew_split ?_ | with_reducible refine grew_mk ?_ | with_reducible refine grew_plus ?_ | with_reducible refine grew_alloc ?_ | with_reducible refine grew_drew ?_ | (with_reducible refine grew_set ?_ (by first | exact Nat.le_refl _ | omega | (simp [go_sem]; done) | (simp [go_sem]; omega))))))) (by (repeat (first | with_reducible exact grew_refl _ | with_reducible assumption | with_reducible refine grew_split ?_ | with_reducible refine grew_mk ?_ | with_reducible refine grew_plus ?_ | with_reducible refine grew_alloc ?_ | with_reducible refine grew_drew ?_ | (with_reducible refine grew_set ?_ (by first | exact Nat.le_refl _ | omega | (simp [go_sem]; done) | (simp [go_sem]; omega)))))) (by omega) _ ((k : Int) + 1) _ rfl rfl (by intro j u hj; match j, hj with | 0, hj => simp [intRow] at hj; subst hj; simp [Addr.add, go_sem]) (by simp [intRow, Value.oneCell']) ?_); intro A1 c1 g1 HO1)
          go_roundw
          case rel => exact ⟨k + 1, _, _, by omega, by go_num, vsl (by rw [HT.out]; simp), by rw [HT.out]; exact HO1.grew (by (repeat (first | with_reducible exact grew_refl _ | with_reducible assumption | with_reducible refine grew_split ?_ | with_reducible refine grew_mk ?_ | with_reducible refine grew_plus ?_ | with_reducible refine grew_alloc ?_ | with_reducible refine grew_drew ?_ | (with_reducible refine grew_set ?_ (by first | exact Nat.le_refl _ | omega | (simp [go_sem]; done) | (simp [go_sem]; omega)))))), by (repeat (first | with_reducible exact grew_refl _ | with_reducible assumption | with_reducible refine grew_split ?_ | with_reducible refine grew_mk ?_ | with_reducible refine grew_plus ?_ | with_reducible refine grew_alloc ?_ | with_reducible refine grew_drew ?_ | (with_reducible refine grew_set ?_ (by first | exact Nat.le_refl _ | omega | (simp [go_sem]; done) | (simp [go_sem]; omega)))))⟩
          case measure => simp [intOf]; omega
        · have HT := hid (todoTo_done hlt hd)
          go_wp2
          go_roundw
          case rel => exact ⟨k + 1, _, _, by omega, by go_num, vsl (by rw [HT.out]), by rw [HT.out]; exact HO.out.grew (by (repeat (first | with_reducible exact grew_refl _ | with_reducible assumption | with_reducible refine grew_split ?_ | with_reducible refine grew_mk ?_ | with_reducible refine grew_plus ?_ | with_reducible refine grew_alloc ?_ | with_reducible refine grew_drew ?_ | (with_reducible refine grew_set ?_ (by first | exact Nat.le_refl _ | omega | (simp [go_sem]; done) | (simp [go_sem]; omega)))))), by (repeat (first | with_reducible exact grew_refl _ | with_reducible assumption | with_reducible refine grew_split ?_ | with_reducible refine grew_mk ?_ | with_reducible refine grew_plus ?_ | with_reducible refine grew_alloc ?_ | with_reducible refine grew_drew ?_ | (with_reducible refine grew_set ?_ (by first | exact Nat.le_refl _ | omega | (simp [go_sem]; done) | (simp [go_sem]; omega)))))⟩
          case measure => simp [intOf]; omega
      · obtain rfl : k = lines.length := by omega
        clear hp
        go_wp2
        go_ret2
        exact ⟨⟨A', c', ret_sb (by rw [HF.out]) rfl, by rw [HF.out]; exact (HO.out.grew (by (repeat (first | with_reducible exact grew_refl _ | with_reducible assumption | with_reducible refine grew_split ?_ | with_reducible refine grew_mk ?_ | with_reducible refine grew_plus ?_ | with_reducible refine grew_alloc ?_ | with_reducible refine grew_drew ?_ | (with_reducible refine grew_set ?_ (by first | exact Nat.le_refl _ | omega | (simp [go_sem]; done) | (simp [go_sem]; omega))))))).less (by simp [go_sem])⟩, by (repeat (first | with_reducible exact grew_refl _ | with_reducible assumption | with_reducible refine grew_split ?_ | with_reducible refine grew_mk ?_ | with_reducible refine grew_plus ?_ | with_reducible refine grew_alloc ?_ | with_reducible refine grew_drew ?_ | (with_reducible refine grew_set ?_ (by first | exact Nat.le_refl _ | omega | (simp [go_sem]; done) | (simp [go_sem]; omega)))))⟩
set_option maxHeartbeats 2000000 in
theorem s_LinesToDo (v : DayV) (w : World) (hv : v.At w) :
    Calls Tryz.prog 100 #[v.val] w fun e w' => (∃ A c, e = .returned (.tuple #[.slice A (todoF v.core).length c, .bool v.core.ok]) ∧ Own w.heap.size 3 1 intRow w' A c (todoF v.core)) ∧ ∃ g, w' = plus w g := by
  have HV := hid hv
  cases ho : v.core.ok
  · have HF : Hid (todoF v.core = []) := hid (by simp [todoF, ho])
    clear hv
    go_enter Tryz.func100, Tryz.ntmps100
    go_wp2_with (go_at_call 75; refine (s_l25Good v _ ho _ (HV.out.grew (by (repeat (first | with_reducible exact grew_refl _ | with_reducible assumption | with_reducible refine grew_split ?_ | with_reducible refine grew_mk ?_ | with_reducible refine grew_plus ?_ | with_reducible refine grew_alloc ?_ | with_reducible refine grew_drew ?_ | (with_reducible refine grew_set ?_ (by first | exact Nat.le_refl _ | omega | (simp [go_sem]; done) | (simp [go_sem]; omega)))))))).mono ?_; (rintro e w' ⟨rfl, gx, rfl⟩))
    go_ret2
    exact ⟨⟨_, 0, ret_sb (by rw [HF.out]; rfl) rfl, by rw [HF.out]; exact Own.newIn (by (repeat (first | with_reducible exact grew_refl _ | with_reducible assumption | with_reducible refine grew_split ?_ | with_reducible refine grew_mk ?_ | with_reducible refine grew_plus ?_ | with_reducible refine grew_alloc ?_ | with_reducible refine grew_drew ?_ | (with_reducible refine grew_set ?_ (by first | exact Nat.le_refl _ | omega | (simp [go_sem]; done) | (simp [go_sem]; omega)))))) rfl (by simp [go_sem]) (by simp [go_sem])⟩, by (repeat (first | with_reducible exact grew_refl _ | with_reducible assumption | with_reducible refine grew_split ?_ | with_reducible refine grew_mk ?_ | with_reducible refine grew_plus ?_ | with_reducible refine grew_alloc ?_ | with_reducible refine grew_drew ?_ | (with_reducible refine grew_set ?_ (by first | exact Nat.le_refl _ | omega | (simp [go_sem]; done) | (simp [go_sem]; omega)))))⟩
  · have HF : Hid (todoF v.core = todoTo v.core.lines v.core.lines.length) := hid (by simp [todoF, ho])
    clear hv
    go_enter Tryz.func100, Tryz.ntmps100
    go_wp2_with (go_at_call 75; refine (s_l25Good v _ ho _ (HV.out.grew (by (repeat (first | with_reducible exact grew_refl _ | with_reducible assumption | with_reducible refine grew_split ?_ | with_reducible refine grew_mk ?_ | with_reducible refine grew_plus ?_ | with_reducible refine grew_alloc ?_ | with_reducible refine grew_drew ?_ | (with_reducible refine grew_set ?_ (by first | exact Nat.le_refl _ | omega | (simp [go_sem]; done) | (simp [go_sem]; omega)))))))).mono ?_; (rintro e w' ⟨rfl, gx, rfl⟩))
    have hp := HV.out.ln
    have hb := DayC.bounds ho
    obtain ⟨⟨minute, state, lines, line, since, cast, fuel⟩, A, c⟩ := v
    simp only at hp hb HF ⊢
    obtain ⟨b1, b2, b3, b4, b5, b6, b7, b8, b9, b10, b11, b12, b13, b14⟩ := hb
    clear ho
    go_loopw [4, 5] (fun a i wr => ∃ (k : Nat) (A' : Option Addr) (c' : Nat), k ≤ lines.length ∧ i = .int .i64 k ∧ a = .slice A' (todoTo lines k).length c' ∧ Own (w.alloc (.cells #[.int .i64 minute, .int .i64 state, .slice A lines.length c, .int .i64 line, .int .i64 since, .int .i64 cast, .int .i64 fuel] 26)).heap.size 3 1 intRow wr A' c' (todoTo lines k) ∧ (∃ g, wr = plus (w.alloc (.cells #[.int .i64 minute, .int .i64 state, .slice A lines.length c, .int .i64 line, .int .i64 since, .int .i64 cast, .int .i64 fuel] 26)) g)) (fun _ i _ => lines.length - (intOf i).toNat)
    case atStart => exact ⟨0, _, _, Nat.zero_le _, rfl, rfl, Own.newIn (by (repeat (first | with_reducible exact grew_refl _ | with_reducible assumption | with_reducible refine grew_split ?_ | with_reducible refine grew_mk ?_ | with_reducible refine grew_plus ?_ | with_reducible refine grew_alloc ?_ | with_reducible refine grew_drew ?_ | (with_reducible refine grew_set ?_ (by first | exact Nat.le_refl _ | omega | (simp [go_sem]; done) | (simp [go_sem]; omega)))))) rfl (by simp [go_sem]) (by simp [go_sem]), by (repeat (first | with_reducible exact grew_refl _ | with_reducible assumption | with_reducible refine grew_split ?_ | with_reducible refine grew_mk ?_ | with_reducible refine grew_plus ?_ | with_reducible refine grew_alloc ?_ | with_reducible refine grew_drew ?_ | (with_reducible refine grew_set ?_ (by first | exact Nat.le_refl _ | omega | (simp [go_sem]; done) | (simp [go_sem]; omega)))))⟩
    case round =>
      obtain ⟨k, A', c', hk, rfl, rfl, hO, g, rfl⟩ := hrel
      have HO := hid hO
      clear hO
      by_cases hlt : k < lines.length
      · obtain ⟨b, off, rfl, hb, hc⟩ := hp.at_ hlt
        obtain ⟨hc0, hc1⟩ := lcells hc hlt
        have hln := todoTo_len lines k
        clear hc hp
        cases hd : lines[k].done
        · have HT := hid (todoTo_open hlt hd)
          go_wp2_with (at_builtin; go_loud (refine wpList_app rfl _ _ _ rfl 3 1 8 _ Tryz.underlying47 int_info rfl (by omega) (by omega) _ _ _ rfl (HO.out.grew (by (repeat (first | with_reducible exact grew_refl _ | with_reducible assumption | with_reducible refine grew_split ?_ | with_reducible refine grew_mk ?_ | with_reducible refine grew_plus ?_ | with_reducible refine grew_alloc ?_ | with_reducible refine grew_drew ?_ | (with_reducible refine grew_set ?_ (by first | exact Nat.le_refl _ | omega | (simp [go_sem]; done) | (simp [go_sem]; omega))))))) (by (repeat (first | with_reducible exact grew_refl _ | with_reducible assumption | with_reducible refine grew_split ?_ | with_reducible refine grew_mk ?_ | with_reducible refine grew_plus ?_ | with_reducible refine grew_alloc ?_ | with_reducible refine grew_drew ?_ | (with_reducible refine grew_set ?_ (by first | exact Nat.le_refl _ | omega | (simp [go_sem]; done) | (simp [go_sem]; omega)))))) (by omega) _ ((k : Int) + 1) _ rfl rfl (by intro j u hj; match j, hj with | 0, hj => simp [intRow] at hj; subst hj; simp [Addr.add, go_sem]) (by simp [intRow, Value.oneCell']) ?_); intro A1 c1 g1 HO1)
          go_roundw
          case rel => exact ⟨k + 1, _, _, by omega, by go_num, vsl (by rw [HT.out]; simp), by rw [HT.out]; exact HO1.grew (by (repeat (first | with_reducible exact grew_refl _ | with_reducible assumption | with_reducible refine grew_split ?_ | with_reducible refine grew_mk ?_ | with_reducible refine grew_plus ?_ | with_reducible refine grew_alloc ?_ | with_reducible refine grew_drew ?_ | (with_reducible refine grew_set ?_ (by first | exact Nat.le_refl _ | omega | (simp [go_sem]; done) | (simp [go_sem]; omega)))))), by (repeat (first | with_reducible exact grew_refl _ | with_reducible assumption | with_reducible refine grew_split ?_ | with_reducible refine grew_mk ?_ | with_reducible refine grew_plus ?_ | with_reducible refine grew_alloc ?_ | with_reducible refine grew_drew ?_ | (with_reducible refine grew_set ?_ (by first | exact Nat.le_refl _ | omega | (simp [go_sem]; done) | (simp [go_sem]; omega)))))⟩
          case measure => simp [intOf]; omega
        · have HT := hid (todoTo_done hlt hd)
          go_wp2
          go_roundw
          case rel => exact ⟨k + 1, _, _, by omega, by go_num, vsl (by rw [HT.out]), by rw [HT.out]; exact HO.out.grew (by (repeat (first | with_reducible exact grew_refl _ | with_reducible assumption | with_reducible refine grew_split ?_ | with_reducible refine grew_mk ?_ | with_reducible refine grew_plus ?_ | with_reducible refine grew_alloc ?_ | with_reducible refine grew_drew ?_ | (with_reducible refine grew_set ?_ (by first | exact Nat.le_refl _ | omega | (simp [go_sem]; done) | (simp [go_sem]; omega)))))), by (repeat (first | with_reducible exact grew_refl _ | with_reducible assumption | with_reducible refine grew_split ?_ | with_reducible refine grew_mk ?_ | with_reducible refine grew_plus ?_ | with_reducible refine grew_alloc ?_ | with_reducible refine grew_drew ?_ | (with_reducible refine grew_set ?_ (by first | exact Nat.le_refl _ | omega | (simp [go_sem]; done) | (simp [go_sem]; omega)))))⟩
          case measure => simp [intOf]; omega
      · obtain rfl : k = lines.length := by omega
        clear hp
        go_wp2
        go_ret2
        exact ⟨⟨A', c', ret_sb (by rw [HF.out]) rfl, by rw [HF.out]; exact (HO.out.grew (by (repeat (first | with_reducible exact grew_refl _ | with_reducible assumption | with_reducible refine grew_split ?_ | with_reducible refine grew_mk ?_ | with_reducible refine grew_plus ?_ | with_reducible refine grew_alloc ?_ | with_reducible refine grew_drew ?_ | (with_reducible refine grew_set ?_ (by first | exact Nat.le_refl _ | omega | (simp [go_sem]; done) | (simp [go_sem]; omega))))))).less (by simp [go_sem])⟩, by (repeat (first | with_reducible exact grew_refl _ | with_reducible assumption | with_reducible refine grew_split ?_ | with_reducible refine grew_mk ?_ | with_reducible refine grew_plus ?_ | with_reducible refine grew_alloc ?_ | with_reducible refine grew_drew ?_ | (with_reducible refine grew_set ?_ (by first | exact Nat.le_refl _ | omega | (simp [go_sem]; done) | (simp [go_sem]; omega)))))⟩
end Go.Proofs.YtecghfcgahgfiaaGreatDoor
/- A new day, in both packages. -/
namespace Go.Proofs.YtecghfcgahgfiaaGreatDoor
open Go.RowKit

theorem newline_info : (Tryz.prog.info? 80).map (fun i => (i.zero, i.size, i.bytes)) = some (some (.agg #[.int .i64 0, .bool false]), 2, 16) := by kernel_rfl
def newLn (n : Int) : LineR := ⟨n, false⟩
def newC (ms : List Int) (fuel : Int) : DayC := ⟨0, 0, ms.map newLn, 0, 0, -1, fuel⟩
def noDay : DayC := ⟨0, 0, [], 0, 0, 0, 0⟩
def newF (ms : List Int) (fuel : Int) : DayC := if (newC ms fuel).ok then newC ms fuel else noDay
theorem newC_long {ms : List Int} {fuel : Int} (h : 8 < ms.length) : (newC ms fuel).ok = false :=
  DayC.no_pre (by simp [DayC.pre, newC, inB]; omega)
theorem newLn_step {ms : List Int} {k : Nat} (hk : k < ms.length) : (ms.take (k + 1)).map newLn = (ms.take k).map newLn ++ [newLn ms[k]] := by
  rw [List.take_succ_eq_append_getElem hk, List.map_append]; rfl
theorem LineR.one (r : LineR) : ∀ u ∈ r.row, u.oneCell' = true := by
  intro u hu
  simp [LineR.row] at hu
  rcases hu with rfl | rfl <;> rfl
set_option maxHeartbeats 2000000 in
theorem i_NewSurveyDay (ms : List Int) (A : Option Addr) (c : Nat) (fuel : Int) (w : World) (hA : Sl w 1 intRow A ms) (hl : ms.length ≤ 1048576) :
    Calls Tryz.prog 56 #[.slice A ms.length c, .int .i64 fuel] w fun e w' => (∃ A' c', e = .returned (.tuple #[DayV.val ⟨newF ms fuel, A', c'⟩, .bool (newC ms fuel).ok]) ∧ OwnF w.heap.size 80 2 LineR.row w' A' (newF ms fuel).lines) ∧ ∃ g, w' = plus w g := by
  by_cases h8 : 8 < ms.length
  · have HF := hid (newC_long (fuel := fuel) h8)
    go_enter Tryz.func56, Tryz.ntmps56
    go_wp2
    refine bodyPost_ret (v := .tuple #[DayV.val ⟨noDay, none, 0⟩, .bool false]) (by simp [results, Tryz.results56, go_sem, noDay]) rfl ?_
    exact ⟨⟨none, 0, by simp [newF, HF.out], by simp [newF, HF.out, noDay]; exact .inl rfl⟩, by (repeat (first | with_reducible exact grew_refl _ | with_reducible assumption | with_reducible refine grew_split ?_ | with_reducible refine grew_mk ?_ | with_reducible refine grew_plus ?_ | with_reducible refine grew_alloc ?_ | with_reducible refine grew_drew ?_ | (with_reducible refine grew_set ?_ (by first | exact Nat.le_refl _ | omega | (simp [go_sem]; done) | (simp [go_sem]; omega)))))⟩
  · have hl8 : ms.length ≤ 8 := by omega
    have HA := hid hA
    clear hA
    go_enter Tryz.func56, Tryz.ntmps56
    go_wp2_with fail
    go_loopw [18, 8] (fun i _ wr => ∃ (k : Nat) (A' : Option Addr) (c' : Nat), k ≤ ms.length ∧ i = .int .i64 k ∧ Own (w.heap.size + 1) 80 2 LineR.row wr A' c' ((ms.take k).map newLn) ∧ (∀ a, A' = some a → a.block ≠ w.heap.size + 1 + 1) ∧
      Blk wr w.heap.size 26 #[.int .i64 0, .int .i64 0, .slice none 0 0, .int .i64 0, .int .i64 0, .int .i64 0, .int .i64 0] ∧
      Blk wr (w.heap.size + 1 + 1) 26 #[.int .i64 0, .int .i64 0, .slice A' k c', .int .i64 0, .int .i64 0, .int .i64 (-1), .int .i64 fuel] ∧ ∃ g, wr = plus w g) (fun i _ _ => ms.length - (intOf i).toNat)
    case atStart =>
      exact ⟨0, _, _, Nat.zero_le _, rfl, Own.newIn (o := .cells #[] 80) (by (repeat (first | with_reducible exact grew_refl _ | with_reducible assumption | with_reducible refine grew_split ?_ | with_reducible refine grew_mk ?_ | with_reducible refine grew_plus ?_ | with_reducible refine grew_alloc ?_ | with_reducible refine grew_drew ?_ | (with_reducible refine grew_set ?_ (by first | exact Nat.le_refl _ | omega | (simp [go_sem]; done) | (simp [go_sem]; omega)))))) rfl (by simp) (by simp), (fun a ha => by injection ha with ha; subst ha; simp), ((blk_new rfl).alloc _).alloc _, blk_new (by simp), by (repeat (first | with_reducible exact grew_refl _ | with_reducible assumption | with_reducible refine grew_split ?_ | with_reducible refine grew_mk ?_ | with_reducible refine grew_plus ?_ | with_reducible refine grew_alloc ?_ | with_reducible refine grew_drew ?_ | (with_reducible refine grew_set ?_ (by first | exact Nat.le_refl _ | omega | (simp [go_sem]; done) | (simp [go_sem]; omega)))))⟩
    case round =>
      obtain ⟨k, A', c', hk, rfl, hO, hne, hR, hD, hg⟩ := hrel
      have HO := hid hO
      have HN := hid hne
      have HR := hid hR
      have HD := hid hD
      have HG := hid hg
      have hS : w.heap.size + 1 + 1 < wr.heap.size := hD.lt
      have hd0 := hD.cell 0
      have hd1 := hD.cell 1
      have hd2 := hD.cell 2
      have hd3 := hD.cell 3
      have hd4 := hD.cell 4
      have hd5 := hD.cell 5
      have hd6 := hD.cell 6
      simp at hd0 hd1 hd2 hd3 hd4 hd5 hd6
      clear hO hne hR hD hg
      by_cases hlt : k < ms.length
      · obtain ⟨b, off, rfl, hb, hc⟩ := (HA.out.grew HG.out).at_ hlt
        have hc0 := icells hc hlt
        clear hc
        go_wp2_with (at_builtin; go_loud (refine wpList_appB (B := w.heap.size + 1) rfl _ _ _ rfl 80 2 16 _ Tryz.underlying24 newline_info rfl (by omega) (by omega) A' c' ((ms.take k).map newLn) k (by simp; omega) rfl (HO.out.grew (by (repeat (first | with_reducible exact grew_refl _ | with_reducible assumption | with_reducible refine grew_split ?_ | with_reducible refine grew_mk ?_ | with_reducible refine grew_plus ?_ | with_reducible refine grew_alloc ?_ | with_reducible refine grew_drew ?_ | (with_reducible refine grew_set ?_ (by first | exact Nat.le_refl _ | omega | (simp [go_sem]; done) | (simp [go_sem]; omega))))))) (by simp; omega) (by simp; omega) _ (newLn ms[k]) _ rfl rfl (by intro j u hj; match j, hj with | 0, hj => simp [LineR.row, newLn] at hj; subst hj; simp [Addr.add, go_sem] | 1, hj => simp [LineR.row, newLn] at hj; subst hj; simp [Addr.add, go_sem]) (LineR.one _) ?_); intro A1 c1 w1 hO1 hg1 hat1; have hB1 := blk_kept (HD.out.alloc _) hg1 HN.out; have hz2 := hB1.cell 2; have hf2 := hB1.frozen 2; simp at hz2; have HB1 := hid hB1; have HO1 := hid hO1; have HG1 := hid hg1; have HA1 := hid hat1; clear hB1 hO1 hg1 hat1)
        go_roundw
        case rel =>
          have hr1 := blk_kept (HR.out.alloc _) HG1.out (fun a ha => by have := (HO.out.ne a ha).1; omega)
          have hw1 := grew_own (w0 := w) (by have := HG.out; (repeat (first | with_reducible exact grew_refl _ | with_reducible assumption | with_reducible refine grew_split ?_ | with_reducible refine grew_mk ?_ | with_reducible refine grew_plus ?_ | with_reducible refine grew_alloc ?_ | with_reducible refine grew_drew ?_ | (with_reducible refine grew_set ?_ (by first | exact Nat.le_refl _ | omega | (simp [go_sem]; done) | (simp [go_sem]; omega)))))) HG1.out (fun a ha => by have := (HO.out.ne a ha).1; omega)
          have hn1 : ∀ a, A1 = some a → a.block ≠ w.heap.size + 1 + 1 := fun a ha => by
            rcases HA1.out a ha with ⟨a0, h1, h2⟩ | h2
            · rw [← h2]; exact HN.out a0 h1
            · rw [h2]; simp; omega
          have hO2 := HO1.out
          rw [← newLn_step hlt] at hO2
          refine ⟨k + 1, A1, c1, by omega, by go_num, hO2.setFar (fun a ha => hn1 a ha), hn1, hr1.far (by simp; omega) _, HB1.out.set_ 2 _, grew_set hw1 (by omega)⟩
        case measure => simp [intOf]; omega
      · obtain rfl : k = ms.length := by omega
        have hr0 := HR.out.cell 0
        have hr1 := HR.out.cell 1
        have hr2 := HR.out.cell 2
        have hr3 := HR.out.cell 3
        have hr4 := HR.out.cell 4
        have hr5 := HR.out.cell 5
        have hr6 := HR.out.cell 6
        simp at hr0 hr1 hr2 hr3 hr4 hr5 hr6
        have hq0 := HR.out.frozen 0
        have hq1 := HR.out.frozen 1
        have hq2 := HR.out.frozen 2
        have hq3 := HR.out.frozen 3
        have hq4 := HR.out.frozen 4
        have hq5 := HR.out.frozen 5
        have hq6 := HR.out.frozen 6
        have hSR : w.heap.size < wr.heap.size := HR.out.lt
        have hO1 : Own (w.heap.size + 1) 80 2 LineR.row wr A' c' (newC ms fuel).lines := by have := HO.out; rw [List.take_length] at this; exact this
        have HO1 := hid hO1
        have hv : DayV.At wr ⟨newC ms fuel, A', c'⟩ := ⟨hO1.sl (fun _ => rfl), by simp [newC]; unfold maxLen; omega⟩
        clear hO1
        cases hok : (newC ms fuel).ok
        · have HK := hid hok
          have hcall := i_IsSurveyDay ⟨newC ms fuel, A', c'⟩ _ hok wr hv
          simp only [DayV.val, newC, List.length_map] at hcall
          have HCALL := hid hcall
          clear hcall hv hok
          go_wp2_with fail
          refine HCALL.out.mono ?_
          (rintro e w' ⟨rfl, gx, rfl⟩)
          go_wp2_with fail
          refine bodyPost_ret (v := .tuple #[DayV.val ⟨noDay, none, 0⟩, .bool false]) (by simp [results, Tryz.results56, go_sem, noDay, *]) rfl ?_
          have HG := HG.out
          exact ⟨⟨none, 0, by simp [newF, HK.out], by simp [newF, HK.out, noDay]; exact .inl rfl⟩, by (repeat (first | with_reducible exact grew_refl _ | with_reducible assumption | with_reducible refine grew_split ?_ | with_reducible refine grew_mk ?_ | with_reducible refine grew_plus ?_ | with_reducible refine grew_alloc ?_ | with_reducible refine grew_drew ?_ | (with_reducible refine grew_set ?_ (by first | exact Nat.le_refl _ | omega | (simp [go_sem]; done) | (simp [go_sem]; omega)))))⟩
        · have HK := hid hok
          have hcall := i_IsSurveyDay ⟨newC ms fuel, A', c'⟩ _ hok wr hv
          simp only [DayV.val, newC, List.length_map] at hcall
          have HCALL := hid hcall
          clear hcall hv hok
          go_wp2_with fail
          refine HCALL.out.mono ?_
          (rintro e w' ⟨rfl, gx, rfl⟩)
          go_wp2_with fail
          refine bodyPost_ret (v := .tuple #[DayV.val ⟨newC ms fuel, A', c'⟩, .bool true]) (by simp [results, Tryz.results56, go_sem, newC, *]) rfl ?_
          have HG := HG.out
          refine ⟨⟨A', c', by simp [newF, HK.out], ?_⟩, by (repeat (first | with_reducible exact grew_refl _ | with_reducible assumption | with_reducible refine grew_split ?_ | with_reducible refine grew_mk ?_ | with_reducible refine grew_plus ?_ | with_reducible refine grew_alloc ?_ | with_reducible refine grew_drew ?_ | (with_reducible refine grew_set ?_ (by first | exact Nat.le_refl _ | omega | (simp [go_sem]; done) | (simp [go_sem]; omega)))))⟩
          have hfar : ∀ a, A' = some a → a.block ≠ w.heap.size := fun a ha => by have := (HO1.out.ne a ha).1; omega
          rw [show (newF ms fuel).lines = (newC ms fuel).lines by simp [newF, HK.out]]
          exact (((((((((HO1.out.setFar hfar).setFar hfar).setFar hfar).setFar hfar).setFar hfar).setFar hfar).setFar hfar).f (fun _ => rfl)).less (by omega)).grew (grew_plus (grew_refl _))
set_option maxHeartbeats 2000000 in
theorem s_NewSurveyDay (ms : List Int) (A : Option Addr) (c : Nat) (fuel : Int) (w : World) (hA : Sl w 1 intRow A ms) (hl : ms.length ≤ 1048576) :
    Calls Tryz.prog 57 #[.slice A ms.length c, .int .i64 fuel] w fun e w' => (∃ A' c', e = .returned (.tuple #[DayV.val ⟨newF ms fuel, A', c'⟩, .bool (newC ms fuel).ok]) ∧ OwnF w.heap.size 80 2 LineR.row w' A' (newF ms fuel).lines) ∧ ∃ g, w' = plus w g := by
  have HA := hid hA
  clear hA
  go_enter Tryz.func57, Tryz.ntmps57
  go_wp2_with fail
  go_loopw [7] (fun i wr => ∃ (k : Nat) (A' : Option Addr) (c' : Nat), k ≤ ms.length ∧ i = .int .i64 k ∧ Own (w.heap.size + 1) 80 2 LineR.row wr A' c' ((ms.take k).map newLn) ∧ (∀ a, A' = some a → a.block ≠ w.heap.size + 1 + 1) ∧
    Blk wr w.heap.size 26 #[.int .i64 0, .int .i64 0, .slice none 0 0, .int .i64 0, .int .i64 0, .int .i64 0, .int .i64 0] ∧
    Blk wr (w.heap.size + 1 + 1) 26 #[.int .i64 0, .int .i64 0, .slice A' k c', .int .i64 0, .int .i64 0, .int .i64 (-1), .int .i64 fuel] ∧ ∃ g, wr = plus w g) (fun i _ => ms.length - (intOf i).toNat)
  case atStart =>
    exact ⟨0, _, _, Nat.zero_le _, rfl, Own.newIn (o := .cells #[] 80) (by (repeat (first | with_reducible exact grew_refl _ | with_reducible assumption | with_reducible refine grew_split ?_ | with_reducible refine grew_mk ?_ | with_reducible refine grew_plus ?_ | with_reducible refine grew_alloc ?_ | with_reducible refine grew_drew ?_ | (with_reducible refine grew_set ?_ (by first | exact Nat.le_refl _ | omega | (simp [go_sem]; done) | (simp [go_sem]; omega)))))) rfl (by simp) (by simp), (fun a ha => by injection ha with ha; subst ha; simp), ((blk_new rfl).alloc _).alloc _, blk_new (by simp), by (repeat (first | with_reducible exact grew_refl _ | with_reducible assumption | with_reducible refine grew_split ?_ | with_reducible refine grew_mk ?_ | with_reducible refine grew_plus ?_ | with_reducible refine grew_alloc ?_ | with_reducible refine grew_drew ?_ | (with_reducible refine grew_set ?_ (by first | exact Nat.le_refl _ | omega | (simp [go_sem]; done) | (simp [go_sem]; omega)))))⟩
  case round =>
    obtain ⟨k, A', c', hk, rfl, hO, hne, hR, hD, hg⟩ := hrel
    have HO := hid hO
    have HN := hid hne
    have HR := hid hR
    have HD := hid hD
    have HG := hid hg
    have hS : w.heap.size + 1 + 1 < wr.heap.size := hD.lt
    have hd0 := hD.cell 0
    have hd1 := hD.cell 1
    have hd2 := hD.cell 2
    have hd3 := hD.cell 3
    have hd4 := hD.cell 4
    have hd5 := hD.cell 5
    have hd6 := hD.cell 6
    simp at hd0 hd1 hd2 hd3 hd4 hd5 hd6
    clear hO hne hR hD hg
    by_cases hlt : k < ms.length
    · obtain ⟨b, off, rfl, hb, hc⟩ := (HA.out.grew HG.out).at_ hlt
      have hc0 := icells hc hlt
      clear hc
      go_wp2_with fail
      go_region_law ((refine step_appB (B := w.heap.size + 1) (by rfl) _ _ _ (by rfl) 80 2 16 _ Tryz.underlying24 newline_info rfl (by omega) (by omega) A' c' ((ms.take k).map newLn) k (by simp; omega) (by rfl) (HO.out.grew (by (repeat (first | with_reducible exact grew_refl _ | with_reducible assumption | with_reducible refine grew_split ?_ | with_reducible refine grew_mk ?_ | with_reducible refine grew_plus ?_ | with_reducible refine grew_alloc ?_ | with_reducible refine grew_drew ?_ | (with_reducible refine grew_set ?_ (by first | exact Nat.le_refl _ | omega | (simp [go_sem]; done) | (simp [go_sem]; omega))))))) (by simp; omega) (by simp; omega) _ (newLn ms[k]) _ (by rfl) rfl (by intro j u hj; match j, hj with | 0, hj => simp [LineR.row, newLn] at hj; subst hj; simp [Addr.add, go_sem] | 1, hj => simp [LineR.row, newLn] at hj; subst hj; simp [Addr.add, go_sem]) (LineR.one _) ?_; intro A1 c1 w1 hO1 hg1 hat1; have hB1 := blk_kept (blk_grew HD.out (by (repeat (first | with_reducible exact grew_refl _ | with_reducible assumption | with_reducible refine grew_split ?_ | with_reducible refine grew_mk ?_ | with_reducible refine grew_plus ?_ | with_reducible refine grew_alloc ?_ | with_reducible refine grew_drew ?_ | (with_reducible refine grew_set ?_ (by first | exact Nat.le_refl _ | omega | (simp [go_sem]; done) | (simp [go_sem]; omega))))))) hg1 HN.out; have hz2 := hB1.cell 2; have hf2 := hB1.frozen 2; simp at hz2; have HB1 := hid hB1; have HO1 := hid hO1; have HG1 := hid hg1; have HA1 := hid hat1; clear hB1 hO1 hg1 hat1))
      all_goals
        go_wp2
        go_roundw
        case rel =>
          have hr1 := blk_kept (blk_grew HR.out (by (repeat (first | with_reducible exact grew_refl _ | with_reducible assumption | with_reducible refine grew_split ?_ | with_reducible refine grew_mk ?_ | with_reducible refine grew_plus ?_ | with_reducible refine grew_alloc ?_ | with_reducible refine grew_drew ?_ | (with_reducible refine grew_set ?_ (by first | exact Nat.le_refl _ | omega | (simp [go_sem]; done) | (simp [go_sem]; omega))))))) HG1.out (fun a ha => by have := (HO.out.ne a ha).1; omega)
          have hw1 := grew_own (w0 := w) (by have := HG.out; (repeat (first | with_reducible exact grew_refl _ | with_reducible assumption | with_reducible refine grew_split ?_ | with_reducible refine grew_mk ?_ | with_reducible refine grew_plus ?_ | with_reducible refine grew_alloc ?_ | with_reducible refine grew_drew ?_ | (with_reducible refine grew_set ?_ (by first | exact Nat.le_refl _ | omega | (simp [go_sem]; done) | (simp [go_sem]; omega)))))) HG1.out (fun a ha => by have := (HO.out.ne a ha).1; omega)
          have hn1 : ∀ a, A1 = some a → a.block ≠ w.heap.size + 1 + 1 := fun a ha => by
            rcases HA1.out a ha with ⟨a0, h1, h2⟩ | h2
            · rw [← h2]; exact HN.out a0 h1
            · rw [h2]; simp; omega
          have hO2 := HO1.out
          rw [← newLn_step hlt] at hO2
          refine ⟨k + 1, A1, c1, by omega, by go_num, hO2.setFar (fun a ha => hn1 a ha), hn1, hr1.far (by simp; omega) _, HB1.out.set_ 2 _, grew_set hw1 (by omega)⟩
        case measure => simp [intOf]; omega
    · obtain rfl : k = ms.length := by omega
      have hr0 := HR.out.cell 0
      have hr1 := HR.out.cell 1
      have hr2 := HR.out.cell 2
      have hr3 := HR.out.cell 3
      have hr4 := HR.out.cell 4
      have hr5 := HR.out.cell 5
      have hr6 := HR.out.cell 6
      simp at hr0 hr1 hr2 hr3 hr4 hr5 hr6
      have hq0 := HR.out.frozen 0
      have hq1 := HR.out.frozen 1
      have hq2 := HR.out.frozen 2
      have hq3 := HR.out.frozen 3
      have hq4 := HR.out.frozen 4
      have hq5 := HR.out.frozen 5
      have hq6 := HR.out.frozen 6
      have hSR : w.heap.size < wr.heap.size := HR.out.lt
      have hO1 : Own (w.heap.size + 1) 80 2 LineR.row wr A' c' (newC ms fuel).lines := by have := HO.out; rw [List.take_length] at this; exact this
      have HO1 := hid hO1
      have hv : DayV.At wr ⟨newC ms fuel, A', c'⟩ := ⟨hO1.sl (fun _ => rfl), by simp [newC]; unfold maxLen; omega⟩
      clear hO1
      cases hok : (newC ms fuel).ok
      · have HK := hid hok
        have hcall := s_l25Good ⟨newC ms fuel, A', c'⟩ _ hok wr hv
        simp only [DayV.val, newC, List.length_map] at hcall
        have HCALL := hid hcall
        clear hcall hv hok
        go_wp2_with fail
        refine HCALL.out.mono ?_
        (rintro e w' ⟨rfl, gx, rfl⟩)
        go_wp2_with fail
        refine bodyPost_ret (v := .tuple #[DayV.val ⟨noDay, none, 0⟩, .bool false]) (by simp [results, Tryz.results57, go_sem, noDay, *]) rfl ?_
        have HG := HG.out
        exact ⟨⟨none, 0, by simp [newF, HK.out], by simp [newF, HK.out, noDay]; exact .inl rfl⟩, by (repeat (first | with_reducible exact grew_refl _ | with_reducible assumption | with_reducible refine grew_split ?_ | with_reducible refine grew_mk ?_ | with_reducible refine grew_plus ?_ | with_reducible refine grew_alloc ?_ | with_reducible refine grew_drew ?_ | (with_reducible refine grew_set ?_ (by first | exact Nat.le_refl _ | omega | (simp [go_sem]; done) | (simp [go_sem]; omega)))))⟩
      · have HK := hid hok
        have hcall := s_l25Good ⟨newC ms fuel, A', c'⟩ _ hok wr hv
        simp only [DayV.val, newC, List.length_map] at hcall
        have HCALL := hid hcall
        clear hcall hv hok
        go_wp2_with fail
        refine HCALL.out.mono ?_
        (rintro e w' ⟨rfl, gx, rfl⟩)
        go_wp2_with fail
        refine bodyPost_ret (v := .tuple #[DayV.val ⟨newC ms fuel, A', c'⟩, .bool true]) (by simp [results, Tryz.results57, go_sem, newC, *]) rfl ?_
        have HG := HG.out
        refine ⟨⟨A', c', by simp [newF, HK.out], ?_⟩, by (repeat (first | with_reducible exact grew_refl _ | with_reducible assumption | with_reducible refine grew_split ?_ | with_reducible refine grew_mk ?_ | with_reducible refine grew_plus ?_ | with_reducible refine grew_alloc ?_ | with_reducible refine grew_drew ?_ | (with_reducible refine grew_set ?_ (by first | exact Nat.le_refl _ | omega | (simp [go_sem]; done) | (simp [go_sem]; omega)))))⟩
        have hfar : ∀ a, A' = some a → a.block ≠ w.heap.size := fun a ha => by have := (HO1.out.ne a ha).1; omega
        rw [show (newF ms fuel).lines = (newC ms fuel).lines by simp [newF, HK.out]]
        exact (((((((((HO1.out.setFar hfar).setFar hfar).setFar hfar).setFar hfar).setFar hfar).setFar hfar).setFar hfar).f (fun _ => rfl)).less (by omega)).grew (grew_plus (grew_refl _))
end Go.Proofs.YtecghfcgahgfiaaGreatDoor
/- append(out, src...): a whole list behind one of the call's own. No program in sight. -/
namespace Go.Proofs.YtecghfcgahgfiaaGreatDoor
open Go.RowKit

theorem flat_at {α : Type} {s : Nat} {cells : α → List Value} (hs : ∀ x, (cells x).length = s) : ∀ (l : List α) (j : Nat) (u : Value), (l.flatMap cells)[j]? = some u → ∃ i, ∃ hi : i < l.length, ∃ j', j = i * s + j' ∧ (cells l[i])[j']? = some u
  | [], j, u, h => by simp at h
  | x :: r, j, u, h => by
    rw [List.flatMap_cons] at h
    by_cases hj : j < s
    · rw [List.getElem?_append_left (by rw [hs]; exact hj)] at h
      exact ⟨0, by simp, j, by simp, h⟩
    · rw [List.getElem?_append_right (by rw [hs]; omega), hs] at h
      obtain ⟨i, hi, j', e, h'⟩ := flat_at hs r (j - s) u h
      exact ⟨i + 1, by simpa using hi, j', by rw [Nat.add_mul]; omega, h'⟩
theorem flat_len {α : Type} {s : Nat} {cells : α → List Value} (hs : ∀ x, (cells x).length = s) : ∀ l : List α, (l.flatMap cells).length = l.length * s
  | [] => by simp
  | x :: r => by rw [List.flatMap_cons, List.length_append, hs, flat_len hs r, List.length_cons, Nat.add_mul]; omega
section
variable {P : Program} {α : Type}
theorem appAll {cells : α → List Value} {B : Nat} {w : World} (ty t : TypeId)
    (e : TypeId) (s bytes : Nat) (z : Value) (ht : P.underlying t = some (.slice e)) (hinf : (P.info? e).map (fun i => (i.zero, i.size, i.bytes)) = some (some z, s, bytes)) (hzs : z.cells.size = s) (hsz : 0 < s) (hby : bytes ≤ 4096)
    (hs : ∀ x, (cells x).length = s) (h1 : ∀ x, ∀ u ∈ cells x, u.oneCell' = true)
    (A : Option Addr) (c : Nat) (l : List α) (hown : Own B e s cells w A c l) (hB : B ≤ w.heap.size) (hl : l.length ≤ 1073741824)
    (ad : Addr) (c1 : Nat) (r : List α) (hr : Sl w s cells (some ad) r) (hne : 0 < r.length) (hrl : r.length ≤ 1073741824) :
    ∃ A' c' w', (Builtin.append_ #[t, t] ty #[.slice A l.length c, .slice (some ad) r.length c1]).run P w = .ok (.slice A' (l ++ r).length c') w' ∧ Own B e s cells w' A' c' (l ++ r) ∧ w.grownBy w' (Value.slice A l.length c).ownBlock ∧
      (∀ a', A' = some a' → (∃ a0, A = some a0 ∧ a0.block = a'.block) ∨ a'.block = w.heap.size) := by
  obtain ⟨i0, hi0, hz0, hz1, hz2⟩ := info_parts hinf
  have hbytes : (l.length + r.length) * bytes ≤ 140737488355328 := by
    have := Nat.mul_le_mul (show l.length + r.length ≤ 2147483648 by omega) hby
    omega
  have hnews : ∀ j u, (r.flatMap cells)[j]? = some u → w.cell? (ad.add j) = some u := by
    intro j u hj
    obtain ⟨i, hi, j', rfl, h'⟩ := flat_at hs r j u hj
    obtain ⟨b, off, hA, _, hc⟩ := hr.at_ hi
    injection hA with hA
    subst hA
    have := hc i hi j' u h'
    have ha : (⟨b, off, none⟩ : Addr).add (i * s + j') = ⟨b, off + i * s + j', none⟩ := by unfold Addr.add; split <;> simp_all <;> omega
    rw [ha]; exact this
  have hone : ∀ u ∈ r.flatMap cells, u.oneCell' = true := by
    intro u hu
    obtain ⟨x, _, hx⟩ := List.mem_flatMap.1 hu
    exact h1 x u hx
  obtain ⟨v', w', hrun, hown', hg, _, hat⟩ := run_append_own_at (P := P) w B t ty e i0 z s bytes ht hi0 hz0 hz1 hz2 hzs hsz _ _ _ hown ad r.length c1 (r.flatMap cells) (flat_len hs r) hnews hone (by unfold maxLen; omega) hbytes hB
  have hlen : l.length + r.length = (l ++ r).length := by simp
  have hfl : l.flatMap cells ++ r.flatMap cells = (l ++ r).flatMap cells := by simp
  rw [hlen, hfl] at hown'
  rcases hown'.2 with ⟨rfl, hn⟩ | ⟨g, cap, cur, rfl, _⟩
  · rw [← hlen] at hn; omega
  · refine ⟨_, _, w', hrun, hown', hg, fun a' ha' => ?_⟩
    rcases hat with h | h
    · obtain ⟨a0, h2, h3⟩ := own_some (h.symm.trans (show (Value.slice (some ⟨g, 0, none⟩) (l ++ r).length cap).ownBlock = some g from rfl))
      injection ha' with ha'
      exact .inl ⟨a0, h2, by rw [h3, ← ha']⟩
    · injection ha' with ha'
      simp [Value.ownBlock] at h
      exact .inr (by rw [← ha']; exact h)
theorem wpList_appAll {cells : α → List Value} {B : Nat} {w : World} {ops : Array Oper} {rest : List Oper} {o : Oper} {a : Act} {Q : Exit → Act → World → Prop} (hgd : o.guard = none) (sl x : Operand) (t : TypeId)
    (ho : o.op = .call { callee := .builtin .append, args := #[sl, x], argTypes := #[t, t] })
    (e : TypeId) (s bytes : Nat) (z : Value) (ht : P.underlying t = some (.slice e)) (hinf : (P.info? e).map (fun i => (i.zero, i.size, i.bytes)) = some (some z, s, bytes)) (hzs : z.cells.size = s) (hsz : 0 < s) (hby : bytes ≤ 4096)
    (hs : ∀ x, (cells x).length = s) (h1 : ∀ x, ∀ u ∈ cells x, u.oneCell' = true)
    (A : Option Addr) (c : Nat) (l : List α) (n : Nat) (hn : n = l.length) (hsl : a.eval sl = .slice A n c) (hown : Own B e s cells w A c l) (hB : B ≤ w.heap.size) (hl : l.length ≤ 1073741824)
    (ad : Addr) (c1 : Nat) (r : List α) (hx : a.eval x = .slice (some ad) r.length c1) (hr : Sl w s cells (some ad) r) (hne : 0 < r.length) (hrl : r.length ≤ 1073741824)
    (h : ∀ A' c' w', Own B e s cells w' A' c' (l ++ r) → w.grownBy w' (Value.slice A n c).ownBlock → (∀ a', A' = some a' → (∃ a0, A = some a0 ∧ a0.block = a'.block) ∨ a'.block = w.heap.size) → wpList P ops Q rest (a.put o.dst (.slice A' (n + r.length) c')) w') :
    wpList P ops Q (o :: rest) a w := by
  subst hn
  refine wpList_plain hgd fun K hK => ?_
  obtain ⟨A', c', w', hrun, h2, h3, h4⟩ := appAll (P := P) o.type t e s bytes z ht hinf hzs hsz hby hs h1 A c l hown hB hl ad c1 r hr hne hrl
  rw [show (l ++ r).length = l.length + r.length by simp] at hrun
  unfold Oper.wp execOp
  simp only [ho, resolve, invoke, builtin, Sem.run_bind, Sem.run_pure, Result.andThen_ok, List.map_toArray, List.map_cons, List.map_nil, hsl, hx, hrun]
  exact hK _ _ (h A' c' w' h2 h3 h4)
theorem step_appAll {cells : α → List Value} {B : Nat} {w : World} {ops : Array Oper} {o : Oper} {a : Act} {K : Act → World → Prop} {Q : Exit → Act → World → Prop} {E : Prop} (hgd : o.guard = none) (sl x : Operand) (t : TypeId)
    (ho : o.op = .call { callee := .builtin .append, args := #[sl, x], argTypes := #[t, t] })
    (e : TypeId) (s bytes : Nat) (z : Value) (ht : P.underlying t = some (.slice e)) (hinf : (P.info? e).map (fun i => (i.zero, i.size, i.bytes)) = some (some z, s, bytes)) (hzs : z.cells.size = s) (hsz : 0 < s) (hby : bytes ≤ 4096)
    (hs : ∀ x, (cells x).length = s) (h1 : ∀ x, ∀ u ∈ cells x, u.oneCell' = true)
    (A : Option Addr) (c : Nat) (l : List α) (n : Nat) (hn : n = l.length) (hsl : a.eval sl = .slice A n c) (hown : Own B e s cells w A c l) (hB : B ≤ w.heap.size) (hl : l.length ≤ 1073741824)
    (ad : Addr) (c1 : Nat) (r : List α) (hx : a.eval x = .slice (some ad) r.length c1) (hr : Sl w s cells (some ad) r) (hne : 0 < r.length) (hrl : r.length ≤ 1073741824)
    (h : ∀ A' c' w', Own B e s cells w' A' c' (l ++ r) → w.grownBy w' (Value.slice A n c).ownBlock → (∀ a', A' = some a' → (∃ a0, A = some a0 ∧ a0.block = a'.block) ∨ a'.block = w.heap.size) → K (a.put o.dst (.slice A' (n + r.length) c')) w') :
    if Region.wanted o (yielded ops a.tmps) = true then Oper.wp P o a w K Q else E := by
  subst hn
  have hw : Region.wanted o (yielded ops a.tmps) = true := by simp [Region.wanted, hgd]
  rw [if_pos hw]
  obtain ⟨A', c', w', hrun, h2, h3, h4⟩ := appAll (P := P) o.type t e s bytes z ht hinf hzs hsz hby hs h1 A c l hown hB hl ad c1 r hr hne hrl
  rw [show (l ++ r).length = l.length + r.length by simp] at hrun
  unfold Oper.wp execOp
  simp only [ho, resolve, invoke, builtin, Sem.run_bind, Sem.run_pure, Result.andThen_ok, List.map_toArray, List.map_cons, List.map_nil, hsl, hx, hrun]
  exact h A' c' w' h2 h3 h4
end
end Go.Proofs.YtecghfcgahgfiaaGreatDoor
