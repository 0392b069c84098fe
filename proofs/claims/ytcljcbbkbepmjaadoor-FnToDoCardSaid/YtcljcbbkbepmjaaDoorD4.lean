/- The lines to do, in both packages. -/
import Derived.Test.YtcljcbbkbepmjaaDoorD3
import Derived.Test.YtcljcbbkbepmjaaDoorM1
namespace Go.Proofs.YtcljcbbkbepmjaaDoor
open Go.RowKit

def todoTo (l : List LineR) : Nat → List Int
  | 0 => []
  | k + 1 => if doneAt l k then todoTo l k else todoTo l k ++ [(k : Int) + 1]
theorem todoTo_len (l : List LineR) : ∀ k, (todoTo l k).length ≤ k := by
  intro k
  induction k with
  | zero => simp [todoTo]
  | succ k ih => simp only [todoTo]; split <;> (try simp) <;> omega
theorem todoTo_done {l : List LineR} {k : Nat} (hk : k < l.length) (h : l[k].done = true) : todoTo l (k + 1) = todoTo l k := by simp [todoTo, doneAt, hk, h]
theorem todoTo_open {l : List LineR} {k : Nat} (hk : k < l.length) (h : l[k].done = false) : todoTo l (k + 1) = todoTo l k ++ [(k : Int) + 1] := by simp [todoTo, doneAt, hk, h]
def todoF (v : DayC) : List Int := if v.ok then todoTo v.lines v.lines.length else []
theorem todoF_len (v : DayC) : (todoF v).length ≤ 8 := by
  unfold todoF
  split
  · rename_i h
    have := todoTo_len v.lines v.lines.length
    have := DayC.bounds h
    omega
  · simp
set_option maxHeartbeats 2000000 in
theorem i_LinesToDo (v : DayV) (w : World) (hv : v.At w) :
    Calls Tryd.prog 8 #[v.val] w fun e w' => (∃ A c, e = .returned (.tuple #[.slice A (todoF v.core).length c, .bool v.core.ok]) ∧ Own w.heap.size 3 1 intRow w' A c (todoF v.core)) ∧ ∃ g, w' = plus w g := by
  have HV := hid hv
  cases ho : v.core.ok
  · have HF : Hid (todoF v.core = []) := hid (by simp [todoF, ho])
    clear hv
    go_enter Tryd.func8, Tryd.ntmps8
    go_wp2_with (go_at_call 21; refine (i_IsSurveyDay v _ ho _ (HV.out.alloc _)).mono ?_; (rintro e w' ⟨rfl, gx, rfl⟩))
    go_ret2
    exact ⟨⟨none, 0, by rw [HF.out]; rfl, by rw [HF.out]; exact Own.nil _ _ _ _ _⟩, by (repeat (first | with_reducible exact grew_refl _ | with_reducible assumption | with_reducible refine grew_split ?_ | with_reducible refine grew_mk ?_ | with_reducible refine grew_plus ?_ | with_reducible refine grew_alloc ?_ | with_reducible refine grew_drew ?_ | (with_reducible refine grew_set ?_ (by first | exact Nat.le_refl _ | omega | (simp [go_sem]; done) | (simp [go_sem]; omega)))))⟩
  · have HF : Hid (todoF v.core = todoTo v.core.lines v.core.lines.length) := hid (by simp [todoF, ho])
    clear hv
    go_enter Tryd.func8, Tryd.ntmps8
    go_wp2_with (go_at_call 21; refine (i_IsSurveyDay v _ ho _ (HV.out.alloc _)).mono ?_; (rintro e w' ⟨rfl, gx, rfl⟩))
    have hp := HV.out.ln
    have hb := DayC.bounds ho
    obtain ⟨⟨minute, state, lines, line, since, cast, fuel⟩, A, c⟩ := v
    simp only at hp hb HF ⊢
    obtain ⟨b1, b2, b3, b4, b5, b6, b7, b8, b9, b10, b11, b12, b13, b14⟩ := hb
    clear ho
    go_loopw [4, 14, 6] (fun a i _ wr => ∃ (k : Nat) (A' : Option Addr) (c' : Nat), k ≤ lines.length ∧ i = .int .i64 k ∧ a = .slice A' (todoTo lines k).length c' ∧ Own (w.alloc (.cells #[.int .i64 minute, .int .i64 state, .slice A lines.length c, .int .i64 line, .int .i64 since, .int .i64 cast, .int .i64 fuel] 26)).heap.size 3 1 intRow wr A' c' (todoTo lines k) ∧ (∃ g, wr = plus (w.alloc (.cells #[.int .i64 minute, .int .i64 state, .slice A lines.length c, .int .i64 line, .int .i64 since, .int .i64 cast, .int .i64 fuel] 26)) g)) (fun _ i _ _ => lines.length - (intOf i).toNat)
    case atStart => exact ⟨0, _, _, Nat.zero_le _, rfl, rfl, Own.new rfl (by simp [go_sem]) (by simp [go_sem]), by (repeat (first | with_reducible exact grew_refl _ | with_reducible assumption | with_reducible refine grew_split ?_ | with_reducible refine grew_mk ?_ | with_reducible refine grew_plus ?_ | with_reducible refine grew_alloc ?_ | with_reducible refine grew_drew ?_ | (with_reducible refine grew_set ?_ (by first | exact Nat.le_refl _ | omega | (simp [go_sem]; done) | (simp [go_sem]; omega)))))⟩
    case round =>
      obtain ⟨k, A', c', hk, rfl, rfl, hO, g, rfl⟩ := hrel
      have HO := hid hO
      clear hO
      by_cases hlt : k < lines.length
      · obtain ⟨b, off, rfl, hb, hc⟩ := hp.at_ hlt
        obtain ⟨hc0, hc1⟩ := lcells hc hlt
        have hln := todoTo_len lines k
        clear hc hp
        cases hd : lines[k].done
        · have HT := hid (todoTo_open hlt hd)
          go_wp2_with (at_builtin; go_loud (refine wpList_app rfl _ _ _ rfl 3 1 8 _ Tryd.underlying30 int_info rfl (by omega) (by omega) _ _ _ rfl (HO.out.grew (by (repeat (first | with_reducible exact grew_refl _ | with_reducible assumption | with_reducible refine grew_split ?_ | with_reducible refine grew_mk ?_ | with_reducible refine grew_plus ?_ | with_reducible refine grew_alloc ?_ | with_reducible refine grew_drew ?_ | (with_reducible refine grew_set ?_ (by first | exact Nat.le_refl _ | omega | (simp [go_sem]; done) | (simp [go_sem]; omega))))))) (by (repeat (first | with_reducible exact grew_refl _ | with_reducible assumption | with_reducible refine grew_split ?_ | with_reducible refine grew_mk ?_ | with_reducible refine grew_plus ?_ | with_reducible refine grew_alloc ?_ | with_reducible refine grew_drew ?_ | (with_reducible refine grew_set ?_ (by first | exact Nat.le_refl _ | omega | (simp [go_sem]; done) | (simp [go_sem]; omega)))))) (by omega) _ ((k : Int) + 1) _ rfl rfl (by intro j u hj; match j, hj with | 0, hj => simp [intRow] at hj; subst hj; simp [Addr.add, go_sem]) (by simp [intRow, Value.oneCell']) ?_); intro A1 c1 g1 HO1)
          go_roundw
          case rel => exact ⟨k + 1, _, _, by omega, by go_num, vsl (by rw [HT.out]; simp), by rw [HT.out]; exact HO1.grew (by (repeat (first | with_reducible exact grew_refl _ | with_reducible assumption | with_reducible refine grew_split ?_ | with_reducible refine grew_mk ?_ | with_reducible refine grew_plus ?_ | with_reducible refine grew_alloc ?_ | with_reducible refine grew_drew ?_ | (with_reducible refine grew_set ?_ (by first | exact Nat.le_refl _ | omega | (simp [go_sem]; done) | (simp [go_sem]; omega)))))), by (repeat (first | with_reducible exact grew_refl _ | with_reducible assumption | with_reducible refine grew_split ?_ | with_reducible refine grew_mk ?_ | with_reducible refine grew_plus ?_ | with_reducible refine grew_alloc ?_ | with_reducible refine grew_drew ?_ | (with_reducible refine grew_set ?_ (by first | exact Nat.le_refl _ | omega | (simp [go_sem]; done) | (simp [go_sem]; omega)))))⟩
          case measure => simp [intOf]; omega
        · have HT := hid (todoTo_done hlt hd)
          go_wp2
          go_roundw
          case rel => exact ⟨k + 1, _, _, by omega, by go_num, vsl (by rw [HT.out]), by rw [HT.out]; exact HO.out.grew (by (repeat (first | with_reducible exact grew_refl _ | with_reducible assumption | with_reducible refine grew_split ?_ | with_reducible refine grew_mk ?_ | with_reducible refine grew_plus ?_ | with_reducible refine grew_alloc ?_ | with_reducible refine grew_drew ?_ | (with_reducible refine grew_set ?_ (by first | exact Nat.le_refl _ | omega | (simp [go_sem]; done) | (simp [go_sem]; omega)))))), by (repeat (first | with_reducible exact grew_refl _ | with_reducible assumption | with_reducible refine grew_split ?_ | with_reducible refine grew_mk ?_ | with_reducible refine grew_plus ?_ | with_reducible refine grew_alloc ?_ | with_reducible refine grew_drew ?_ | (with_reducible refine grew_set ?_ (by first | exact Nat.le_refl _ | omega | (simp [go_sem]; done) | (simp [go_sem]; omega)))))⟩
          case measure => simp [intOf]; omega
      · obtain rfl : k = lines.length := by omega
        clear hp
        go_wp2
        go_ret2
        exact ⟨⟨A', c', ret_sb (by rw [HF.out]) rfl, by rw [HF.out]; exact (HO.out.grew (by (repeat (first | with_reducible exact grew_refl _ | with_reducible assumption | with_reducible refine grew_split ?_ | with_reducible refine grew_mk ?_ | with_reducible refine grew_plus ?_ | with_reducible refine grew_alloc ?_ | with_reducible refine grew_drew ?_ | (with_reducible refine grew_set ?_ (by first | exact Nat.le_refl _ | omega | (simp [go_sem]; done) | (simp [go_sem]; omega))))))).less (by simp [go_sem])⟩, by (repeat (first | with_reducible exact grew_refl _ | with_reducible assumption | with_reducible refine grew_split ?_ | with_reducible refine grew_mk ?_ | with_reducible refine grew_plus ?_ | with_reducible refine grew_alloc ?_ | with_reducible refine grew_drew ?_ | (with_reducible refine grew_set ?_ (by first | exact Nat.le_refl _ | omega | (simp [go_sem]; done) | (simp [go_sem]; omega)))))⟩
set_option maxHeartbeats 2000000 in
theorem s_LinesToDo (v : DayV) (w : World) (hv : v.At w) :
    Calls Tryd.prog 9 #[v.val] w fun e w' => (∃ A c, e = .returned (.tuple #[.slice A (todoF v.core).length c, .bool v.core.ok]) ∧ Own w.heap.size 3 1 intRow w' A c (todoF v.core)) ∧ ∃ g, w' = plus w g := by
  have HV := hid hv
  cases ho : v.core.ok
  · have HF : Hid (todoF v.core = []) := hid (by simp [todoF, ho])
    clear hv
    go_enter Tryd.func9, Tryd.ntmps9
    go_wp2_with (go_at_call 22; refine (s_l25Good v _ ho _ (HV.out.grew (by (repeat (first | with_reducible exact grew_refl _ | with_reducible assumption | with_reducible refine grew_split ?_ | with_reducible refine grew_mk ?_ | with_reducible refine grew_plus ?_ | with_reducible refine grew_alloc ?_ | with_reducible refine grew_drew ?_ | (with_reducible refine grew_set ?_ (by first | exact Nat.le_refl _ | omega | (simp [go_sem]; done) | (simp [go_sem]; omega)))))))).mono ?_; (rintro e w' ⟨rfl, gx, rfl⟩))
    go_ret2
    exact ⟨⟨_, 0, ret_sb (by rw [HF.out]; rfl) rfl, by rw [HF.out]; exact Own.newIn (by (repeat (first | with_reducible exact grew_refl _ | with_reducible assumption | with_reducible refine grew_split ?_ | with_reducible refine grew_mk ?_ | with_reducible refine grew_plus ?_ | with_reducible refine grew_alloc ?_ | with_reducible refine grew_drew ?_ | (with_reducible refine grew_set ?_ (by first | exact Nat.le_refl _ | omega | (simp [go_sem]; done) | (simp [go_sem]; omega)))))) rfl (by simp [go_sem]) (by simp [go_sem])⟩, by (repeat (first | with_reducible exact grew_refl _ | with_reducible assumption | with_reducible refine grew_split ?_ | with_reducible refine grew_mk ?_ | with_reducible refine grew_plus ?_ | with_reducible refine grew_alloc ?_ | with_reducible refine grew_drew ?_ | (with_reducible refine grew_set ?_ (by first | exact Nat.le_refl _ | omega | (simp [go_sem]; done) | (simp [go_sem]; omega)))))⟩
  · have HF : Hid (todoF v.core = todoTo v.core.lines v.core.lines.length) := hid (by simp [todoF, ho])
    clear hv
    go_enter Tryd.func9, Tryd.ntmps9
    go_wp2_with (go_at_call 22; refine (s_l25Good v _ ho _ (HV.out.grew (by (repeat (first | with_reducible exact grew_refl _ | with_reducible assumption | with_reducible refine grew_split ?_ | with_reducible refine grew_mk ?_ | with_reducible refine grew_plus ?_ | with_reducible refine grew_alloc ?_ | with_reducible refine grew_drew ?_ | (with_reducible refine grew_set ?_ (by first | exact Nat.le_refl _ | omega | (simp [go_sem]; done) | (simp [go_sem]; omega)))))))).mono ?_; (rintro e w' ⟨rfl, gx, rfl⟩))
    have hp := HV.out.ln
    have hb := DayC.bounds ho
    obtain ⟨⟨minute, state, lines, line, since, cast, fuel⟩, A, c⟩ := v
    simp only at hp hb HF ⊢
    obtain ⟨b1, b2, b3, b4, b5, b6, b7, b8, b9, b10, b11, b12, b13, b14⟩ := hb
    clear ho
    go_loopw [4, 5] (fun a i wr => ∃ (k : Nat) (A' : Option Addr) (c' : Nat), k ≤ lines.length ∧ i = .int .i64 k ∧ a = .slice A' (todoTo lines k).length c' ∧ Own (w.alloc (.cells #[.int .i64 minute, .int .i64 state, .slice A lines.length c, .int .i64 line, .int .i64 since, .int .i64 cast, .int .i64 fuel] 26)).heap.size 3 1 intRow wr A' c' (todoTo lines k) ∧ (∃ g, wr = plus (w.alloc (.cells #[.int .i64 minute, .int .i64 state, .slice A lines.length c, .int .i64 line, .int .i64 since, .int .i64 cast, .int .i64 fuel] 26)) g)) (fun _ i _ => lines.length - (intOf i).toNat)
    case atStart => exact ⟨0, _, _, Nat.zero_le _, rfl, rfl, Own.newIn (by (repeat (first | with_reducible exact grew_refl _ | with_reducible assumption | with_reducible refine grew_split ?_ | with_reducible refine grew_mk ?_ | with_reducible refine grew_plus ?_ | with_reducible refine grew_alloc ?_ | with_reducible refine grew_drew ?_ | (with_reducible refine grew_set ?_ (by first | exact Nat.le_refl _ | omega | (simp [go_sem]; done) | (simp [go_sem]; omega)))))) rfl (by simp [go_sem]) (by simp [go_sem]), by (repeat (first | with_reducible exact grew_refl _ | with_reducible assumption | with_reducible refine grew_split ?_ | with_reducible refine grew_mk ?_ | with_reducible refine grew_plus ?_ | with_reducible refine grew_alloc ?_ | with_reducible refine grew_drew ?_ | (with_reducible refine grew_set ?_ (by first | exact Nat.le_refl _ | omega | (simp [go_sem]; done) | (simp [go_sem]; omega)))))⟩
    case round =>
      obtain ⟨k, A', c', hk, rfl, rfl, hO, g, rfl⟩ := hrel
      have HO := hid hO
      clear hO
      by_cases hlt : k < lines.length
      · obtain ⟨b, off, rfl, hb, hc⟩ := hp.at_ hlt
        obtain ⟨hc0, hc1⟩ := lcells hc hlt
        have hln := todoTo_len lines k
        clear hc hp
        cases hd : lines[k].done
        · have HT := hid (todoTo_open hlt hd)
          go_wp2_with (at_builtin; go_loud (refine wpList_app rfl _ _ _ rfl 3 1 8 _ Tryd.underlying30 int_info rfl (by omega) (by omega) _ _ _ rfl (HO.out.grew (by (repeat (first | with_reducible exact grew_refl _ | with_reducible assumption | with_reducible refine grew_split ?_ | with_reducible refine grew_mk ?_ | with_reducible refine grew_plus ?_ | with_reducible refine grew_alloc ?_ | with_reducible refine grew_drew ?_ | (with_reducible refine grew_set ?_ (by first | exact Nat.le_refl _ | omega | (simp [go_sem]; done) | (simp [go_sem]; omega))))))) (by (repeat (first | with_reducible exact grew_refl _ | with_reducible assumption | with_reducible refine grew_split ?_ | with_reducible refine grew_mk ?_ | with_reducible refine grew_plus ?_ | with_reducible refine grew_alloc ?_ | with_reducible refine grew_drew ?_ | (with_reducible refine grew_set ?_ (by first | exact Nat.le_refl _ | omega | (simp [go_sem]; done) | (simp [go_sem]; omega)))))) (by omega) _ ((k : Int) + 1) _ rfl rfl (by intro j u hj; match j, hj with | 0, hj => simp [intRow] at hj; subst hj; simp [Addr.add, go_sem]) (by simp [intRow, Value.oneCell']) ?_); intro A1 c1 g1 HO1)
          go_roundw
          case rel => exact ⟨k + 1, _, _, by omega, by go_num, vsl (by rw [HT.out]; simp), by rw [HT.out]; exact HO1.grew (by (repeat (first | with_reducible exact grew_refl _ | with_reducible assumption | with_reducible refine grew_split ?_ | with_reducible refine grew_mk ?_ | with_reducible refine grew_plus ?_ | with_reducible refine grew_alloc ?_ | with_reducible refine grew_drew ?_ | (with_reducible refine grew_set ?_ (by first | exact Nat.le_refl _ | omega | (simp [go_sem]; done) | (simp [go_sem]; omega)))))), by (repeat (first | with_reducible exact grew_refl _ | with_reducible assumption | with_reducible refine grew_split ?_ | with_reducible refine grew_mk ?_ | with_reducible refine grew_plus ?_ | with_reducible refine grew_alloc ?_ | with_reducible refine grew_drew ?_ | (with_reducible refine grew_set ?_ (by first | exact Nat.le_refl _ | omega | (simp [go_sem]; done) | (simp [go_sem]; omega)))))⟩
          case measure => simp [intOf]; omega
        · have HT := hid (todoTo_done hlt hd)
          go_wp2
          go_roundw
          case rel => exact ⟨k + 1, _, _, by omega, by go_num, vsl (by rw [HT.out]), by rw [HT.out]; exact HO.out.grew (by (repeat (first | with_reducible exact grew_refl _ | with_reducible assumption | with_reducible refine grew_split ?_ | with_reducible refine grew_mk ?_ | with_reducible refine grew_plus ?_ | with_reducible refine grew_alloc ?_ | with_reducible refine grew_drew ?_ | (with_reducible refine grew_set ?_ (by first | exact Nat.le_refl _ | omega | (simp [go_sem]; done) | (simp [go_sem]; omega)))))), by (repeat (first | with_reducible exact grew_refl _ | with_reducible assumption | with_reducible refine grew_split ?_ | with_reducible refine grew_mk ?_ | with_reducible refine grew_plus ?_ | with_reducible refine grew_alloc ?_ | with_reducible refine grew_drew ?_ | (with_reducible refine grew_set ?_ (by first | exact Nat.le_refl _ | omega | (simp [go_sem]; done) | (simp [go_sem]; omega)))))⟩
          case measure => simp [intOf]; omega
      · obtain rfl : k = lines.length := by omega
        clear hp
        go_wp2
        go_ret2
        exact ⟨⟨A', c', ret_sb (by rw [HF.out]) rfl, by rw [HF.out]; exact (HO.out.grew (by (repeat (first | with_reducible exact grew_refl _ | with_reducible assumption | with_reducible refine grew_split ?_ | with_reducible refine grew_mk ?_ | with_reducible refine grew_plus ?_ | with_reducible refine grew_alloc ?_ | with_reducible refine grew_drew ?_ | (with_reducible refine grew_set ?_ (by first | exact Nat.le_refl _ | omega | (simp [go_sem]; done) | (simp [go_sem]; omega))))))).less (by simp [go_sem])⟩, by (repeat (first | with_reducible exact grew_refl _ | with_reducible assumption | with_reducible refine grew_split ?_ | with_reducible refine grew_mk ?_ | with_reducible refine grew_plus ?_ | with_reducible refine grew_alloc ?_ | with_reducible refine grew_drew ?_ | (with_reducible refine grew_set ?_ (by first | exact Nat.le_refl _ | omega | (simp [go_sem]; done) | (simp [go_sem]; omega)))))⟩
end Go.Proofs.YtcljcbbkbepmjaaDoor
