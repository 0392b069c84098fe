/- The records of a log, in both packages. -/
import Derived.Test.YtfnbbmhhilffeaaDoorH4
import Derived.Test.YtfnbbmhhilffeaaDoorH1
namespace Go.Proofs.YtfnbbmhhilffeaaDoor
open Go.RowKit

def lrF (l : LogR) : List RecR := if l.ok then recsL l.recs l.recs.length else []
theorem lrF_len (l : LogR) : (lrF l).length ≤ 60 := by
  unfold lrF
  split
  · rw [recsL_len (Nat.le_refl _)]; exact opensF_len _
  · simp
theorem ret_slb {A : Option Addr} {n m c : Nat} {a b : Bool} (h : n = m) (h' : a = b) : Ending.returned (.tuple #[.slice A n c, .bool a]) = .returned (.tuple #[.slice A m c, .bool b]) := by rw [h, h']
set_option maxHeartbeats 1000000 in
theorem i_LogRecords (l : LogR) (w : World) (h1 : l.d.size ≤ 2097152) (h2 : l.p.size ≤ 2097152) (hE : Env w) :
    Calls Tryd.prog 14 #[l.val] w fun e' w' => (∃ A c, e' = .returned (.tuple #[.slice A (lrF l).length c, .bool l.ok]) ∧ OwnF w.heap.size 27 2 RecR.row w' A (lrF l)) ∧ ∃ g, w' = plus w g := by
  have _HE := hid hE
  clear hE
  cases ho : l.ok
  · have HF : Hid (lrF l = []) := hid (by simp [lrF, ho])
    have HO := hid ho
    clear ho
    go_enter Tryd.func14, Tryd.ntmps14
    go_wp2_with fail
    refine (i_IsValidLog l _ HO.out _ h1 h2 (_HE.out.grew (by (repeat (first | with_reducible exact grew_refl _ | with_reducible assumption | with_reducible refine grew_split ?_ | with_reducible refine grew_mk ?_ | with_reducible refine grew_plus ?_ | with_reducible refine grew_alloc ?_ | with_reducible refine grew_drew ?_ | (with_reducible refine grew_set ?_ (by first | exact Nat.le_refl _ | omega | (simp [go_sem]; done) | (simp [go_sem]; omega)))))))).mono ?_
    (rintro e w' ⟨rfl, gx, rfl⟩)
    go_wp2_with fail
    go_ret2
    rw [HF.out]
    exact ⟨⟨_, 0, rfl, .inl rfl⟩, by (repeat (first | with_reducible exact grew_refl _ | with_reducible assumption | with_reducible refine grew_split ?_ | with_reducible refine grew_mk ?_ | with_reducible refine grew_plus ?_ | with_reducible refine grew_alloc ?_ | with_reducible refine grew_drew ?_ | (with_reducible refine grew_set ?_ (by first | exact Nat.le_refl _ | omega | (simp [go_sem]; done) | (simp [go_sem]; omega)))))⟩
  · have HF : Hid (lrF l = recsL l.recs l.recs.length) := hid (by simp [lrF, ho])
    have HO := hid ho
    have hsz : (l.d ++ l.p).size ≤ 4194304 := by rw [ByteArray.size_append]; omega
    have hll := recsL_len (L := l.recs) (Nat.le_refl _)
    have HR := hid (fun W h => (i_readRecords (l.d ++ l.p) W hsz h).mono (fun e w' ⟨⟨A, c, A', c', he, hO, _⟩, hg⟩ => (⟨⟨A, c, Value.slice A' (l.recs.length + 1) c', he, hO⟩, hg⟩ : (∃ A c rest, e = Ending.returned (Value.tuple #[Value.slice A l.recs.length c, rest]) ∧ Own W.heap.size 27 2 RecR.row w' A c (recsL l.recs l.recs.length)) ∧ ∃ g, w' = plus W g)))
    have HLL := hid hll
    clear ho hll
    go_enter Tryd.func14, Tryd.ntmps14
    go_wp2_with fail
    refine (i_IsValidLog l _ HO.out _ h1 h2 (_HE.out.grew (by (repeat (first | with_reducible exact grew_refl _ | with_reducible assumption | with_reducible refine grew_split ?_ | with_reducible refine grew_mk ?_ | with_reducible refine grew_plus ?_ | with_reducible refine grew_alloc ?_ | with_reducible refine grew_drew ?_ | (with_reducible refine grew_set ?_ (by first | exact Nat.le_refl _ | omega | (simp [go_sem]; done) | (simp [go_sem]; omega)))))))).mono ?_
    (rintro e w' ⟨rfl, gx, rfl⟩)
    go_wp2_with fail
    refine (HR.out _ (_HE.out.grew (by (repeat (first | with_reducible exact grew_refl _ | with_reducible assumption | with_reducible refine grew_split ?_ | with_reducible refine grew_mk ?_ | with_reducible refine grew_plus ?_ | with_reducible refine grew_alloc ?_ | with_reducible refine grew_drew ?_ | (with_reducible refine grew_set ?_ (by first | exact Nat.le_refl _ | omega | (simp [go_sem]; done) | (simp [go_sem]; omega)))))))).mono ?_
    rintro e w' ⟨⟨A, c, rest, rfl, hO⟩, g1, rfl⟩
    (try rw [plus_plus] at hO)
    have HW := hid hO
    clear hO
    go_wp2_with fail
    go_ret2
    rw [HF.out]
    exact ⟨⟨A, c, ret_slb HLL.out.symm rfl, (HW.out.f RecR.row_len).less (below_of_grew (by first | exact grew_plus (grew_alloc (grew_refl _)) | exact grew_plus (grew_plus (grew_alloc (grew_refl _))))).size⟩, by (repeat (first | with_reducible exact grew_refl _ | with_reducible assumption | with_reducible refine grew_split ?_ | with_reducible refine grew_mk ?_ | with_reducible refine grew_plus ?_ | with_reducible refine grew_alloc ?_ | with_reducible refine grew_drew ?_ | (with_reducible refine grew_set ?_ (by first | exact Nat.le_refl _ | omega | (simp [go_sem]; done) | (simp [go_sem]; omega)))))⟩
set_option maxHeartbeats 1000000 in
theorem s_LogRecords (l : LogR) (w : World) (h1 : l.d.size ≤ 2097152) (h2 : l.p.size ≤ 2097152) (hE : Env w) :
    Calls Tryd.prog 25 #[l.val] w fun e' w' => (∃ A c, e' = .returned (.tuple #[.slice A (lrF l).length c, .bool l.ok]) ∧ OwnF w.heap.size 27 2 RecR.row w' A (lrF l)) ∧ ∃ g, w' = plus w g := by
  have _HE := hid hE
  clear hE
  cases ho : l.ok
  · have HF : Hid (lrF l = []) := hid (by simp [lrF, ho])
    have HO := hid ho
    clear ho
    go_enter Tryd.func25, Tryd.ntmps25
    go_wp2_with fail
    refine (s_l27Log l _ HO.out _ h1 h2).mono ?_
    (rintro e w' ⟨rfl, gx, rfl⟩)
    go_wp2_with fail
    go_ret2
    rw [HF.out]
    exact ⟨⟨_, 0, rfl, .inl rfl⟩, by (repeat (first | with_reducible exact grew_refl _ | with_reducible assumption | with_reducible refine grew_split ?_ | with_reducible refine grew_mk ?_ | with_reducible refine grew_plus ?_ | with_reducible refine grew_alloc ?_ | with_reducible refine grew_drew ?_ | (with_reducible refine grew_set ?_ (by first | exact Nat.le_refl _ | omega | (simp [go_sem]; done) | (simp [go_sem]; omega)))))⟩
  · have HF : Hid (lrF l = recsL l.recs l.recs.length) := hid (by simp [lrF, ho])
    have HO := hid ho
    have hsz : (l.d ++ l.p).size ≤ 4194304 := by rw [ByteArray.size_append]; omega
    have hll := recsL_len (L := l.recs) (Nat.le_refl _)
    have HR := hid (fun W (_ : Env W) => (s_l27Open (l.d ++ l.p) W hsz).mono (fun e w' ⟨⟨A, c, he, hO⟩, hg⟩ => (⟨⟨A, c, Value.int .i64 (endOf l.recs), he, hO⟩, hg⟩ : (∃ A c rest, e = Ending.returned (Value.tuple #[Value.slice A l.recs.length c, rest]) ∧ Own W.heap.size 27 2 RecR.row w' A c (recsL l.recs l.recs.length)) ∧ ∃ g, w' = plus W g)))
    have HLL := hid hll
    clear ho hll
    go_enter Tryd.func25, Tryd.ntmps25
    go_wp2_with fail
    refine (s_l27Log l _ HO.out _ h1 h2).mono ?_
    (rintro e w' ⟨rfl, gx, rfl⟩)
    go_wp2_with fail
    refine (HR.out _ (_HE.out.grew (by (repeat (first | with_reducible exact grew_refl _ | with_reducible assumption | with_reducible refine grew_split ?_ | with_reducible refine grew_mk ?_ | with_reducible refine grew_plus ?_ | with_reducible refine grew_alloc ?_ | with_reducible refine grew_drew ?_ | (with_reducible refine grew_set ?_ (by first | exact Nat.le_refl _ | omega | (simp [go_sem]; done) | (simp [go_sem]; omega)))))))).mono ?_
    rintro e w' ⟨⟨A, c, rest, rfl, hO⟩, g1, rfl⟩
    (try rw [plus_plus] at hO)
    have HW := hid hO
    clear hO
    go_wp2_with fail
    go_ret2
    rw [HF.out]
    exact ⟨⟨A, c, ret_slb HLL.out.symm rfl, (HW.out.f RecR.row_len).less (below_of_grew (by first | exact grew_plus (grew_alloc (grew_refl _)) | exact grew_plus (grew_plus (grew_alloc (grew_refl _))))).size⟩, by (repeat (first | with_reducible exact grew_refl _ | with_reducible assumption | with_reducible refine grew_split ?_ | with_reducible refine grew_mk ?_ | with_reducible refine grew_plus ?_ | with_reducible refine grew_alloc ?_ | with_reducible refine grew_drew ?_ | (with_reducible refine grew_set ?_ (by first | exact Nat.le_refl _ | omega | (simp [go_sem]; done) | (simp [go_sem]; omega)))))⟩
end Go.Proofs.YtfnbbmhhilffeaaDoor
