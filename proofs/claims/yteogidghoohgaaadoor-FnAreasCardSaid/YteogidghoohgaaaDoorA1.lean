/- Area rows: their values, the reference's and the program's IsAreaRow, the laws' conversions. -/
import Derived.Test.YteogidghoohgaaaDoorL1
namespace Go.Proofs.YteogidghoohgaaaDoor
open Go.RowKit

structure AreaR where
  nm : ByteArray
  cells : Int
  cov : Int
  least : Int
  spread : Int
  minutes : Int
def AreaR.row (r : AreaR) : List Value := [.string r.nm, .int .i64 r.cells, .int .i64 r.cov, .int .i64 r.least, .int .i64 r.spread, .int .i64 r.minutes]
abbrev AreaR.val (r : AreaR) : Value := .agg #[.string r.nm, .int .i64 r.cells, .int .i64 r.cov, .int .i64 r.least, .int .i64 r.spread, .int .i64 r.minutes]
theorem AreaR.cells6 {w : World} {b off : Nat} {l : List AreaR} (hc : ∀ i (hi : i < l.length) j u, (AreaR.row l[i])[j]? = some u → w.cell? ⟨b, off + i * 6 + j, none⟩ = some u) {k : Nat} (hk : k < l.length) :
    w.cell? ⟨b, off + k * 6, none⟩ = some (.string l[k].nm) ∧ w.cell? ⟨b, off + k * 6 + 1, none⟩ = some (.int .i64 l[k].cells) ∧ w.cell? ⟨b, off + k * 6 + 2, none⟩ = some (.int .i64 l[k].cov) ∧
    w.cell? ⟨b, off + k * 6 + 3, none⟩ = some (.int .i64 l[k].least) ∧ w.cell? ⟨b, off + k * 6 + 4, none⟩ = some (.int .i64 l[k].spread) ∧ w.cell? ⟨b, off + k * 6 + 5, none⟩ = some (.int .i64 l[k].minutes) :=
  ⟨hc k hk 0 _ rfl, hc k hk 1 _ rfl, hc k hk 2 _ rfl, hc k hk 3 _ rfl, hc k hk 4 _ rfl, hc k hk 5 _ rfl⟩
def AreaR.ok (r : AreaR) : Bool :=
  wordB r.nm && inB r.cells 1 9999 && inB r.cov 0 r.cells && inB r.least (-1000) 20000 && inB r.spread 0 999 && inB r.minutes 0 99999 && (decide (0 < r.cov) || (r.least == 0 && r.spread == 0))

set_option maxHeartbeats 400000 in
theorem s_l26One (r : AreaR) (o : Bool) (ho : r.ok = o) (w : World) (hs : r.nm.size ≤ maxLen) :
    Calls Tryd.prog 55 #[r.val] w fun e' w' => e' = .returned (.bool o) ∧ ∃ g, w' = plus w g := by
  subst ho
  obtain ⟨s, a, b, c, d, e⟩ := r
  simp only at hs ⊢
  go_enter Tryd.func55, Tryd.ntmps55
  go_wp2_with (first
    | (go_at_call 73; refine (s_l1In _ _ _ _ rfl _).mono ?_; (rintro e w' ⟨rfl, rfl⟩))
    | (go_at_call 74; refine (s_l2Depth _ _ rfl _).mono ?_; (rintro e w' ⟨rfl, rfl⟩))
    | (go_at_call 72; refine (s_l2Word _ _ rfl _ hs).mono ?_; (rintro e w' ⟨rfl, rfl⟩)))
  all_goals
    go_ret
    refine ⟨ret_bool ?_, by (repeat (first | with_reducible exact grew_refl _ | with_reducible assumption | with_reducible refine grew_split ?_ | with_reducible refine grew_mk ?_ | with_reducible refine grew_plus ?_ | with_reducible refine grew_alloc ?_ | with_reducible refine grew_drew ?_ | (with_reducible refine grew_set ?_ (by first | exact Nat.le_refl _ | omega | (simp [go_sem]; done) | (simp [go_sem]; omega)))))⟩
    simp only [AreaR.ok]
    grind
set_option maxHeartbeats 400000 in
theorem i_IsAreaRow (r : AreaR) (o : Bool) (ho : r.ok = o) (w : World) (hs : r.nm.size ≤ maxLen) :
    Calls Tryd.prog 27 #[r.val] w fun e' w' => e' = .returned (.bool o) ∧ ∃ g, w' = plus w g := by
  subst ho
  obtain ⟨s, a, b, c, d, e⟩ := r
  simp only at hs ⊢
  go_enter Tryd.func27, Tryd.ntmps27
  go_wp2_with (first
    | (go_at_call 57; refine (i_inside _ _ _ _ rfl _).mono ?_; (rintro e w' ⟨rfl, rfl⟩))
    | (go_at_call 58; refine (i_isDepth _ _ rfl _).mono ?_; (rintro e w' ⟨rfl, rfl⟩))
    | (go_at_call 56; refine (i_isWord _ _ rfl _ hs).mono ?_; (rintro e w' ⟨rfl, rfl⟩)))
  all_goals
    go_ret
    refine ⟨ret_bool ?_, by (repeat (first | with_reducible exact grew_refl _ | with_reducible assumption | with_reducible refine grew_split ?_ | with_reducible refine grew_mk ?_ | with_reducible refine grew_plus ?_ | with_reducible refine grew_alloc ?_ | with_reducible refine grew_drew ?_ | (with_reducible refine grew_set ?_ (by first | exact Nat.le_refl _ | omega | (simp [go_sem]; done) | (simp [go_sem]; omega)))))⟩
    simp only [AreaR.ok]
    grind
set_option maxHeartbeats 400000 in
theorem l_toAreaRow (r : AreaR) (w : World) :
    Calls Tryd.prog 33 #[r.val] w fun e' w' => e' = .returned r.val ∧ ∃ g, w' = plus w g := by
  go_enter Tryd.func33, Tryd.ntmps33
  go_wp2
  refine bodyPost_ret (v := r.val) (by simp [results, Tryd.results33, go_sem]) rfl ⟨rfl, ?_⟩
  (repeat (first | with_reducible exact grew_refl _ | with_reducible assumption | with_reducible refine grew_split ?_ | with_reducible refine grew_mk ?_ | with_reducible refine grew_plus ?_ | with_reducible refine grew_alloc ?_ | with_reducible refine grew_drew ?_ | (with_reducible refine grew_set ?_ (by first | exact Nat.le_refl _ | omega | (simp [go_sem]; done) | (simp [go_sem]; omega)))))
set_option maxHeartbeats 400000 in
theorem l_szAreaRow (r : AreaR) (n : Int) (w : World) (hs : r.nm.size ≤ maxLen) (h0 : 0 ≤ n) (h1 : n ≤ 1048576) :
    Calls Tryd.prog 28 #[r.val, .int .i64 n] w fun e' w' => (∃ k, e' = .returned (.int .i64 k) ∧ k ≤ n ∧ -1 ≤ k) ∧ ∃ g, w' = plus w g := by
  unfold maxLen at hs
  go_enter Tryd.func28, Tryd.ntmps28
  go_wp2
  all_goals
    go_ret
    exact ⟨⟨_, rfl, by omega, by omega⟩, by (repeat (first | with_reducible exact grew_refl _ | with_reducible assumption | with_reducible refine grew_split ?_ | with_reducible refine grew_mk ?_ | with_reducible refine grew_plus ?_ | with_reducible refine grew_alloc ?_ | with_reducible refine grew_drew ?_ | (with_reducible refine grew_set ?_ (by first | exact Nat.le_refl _ | omega | (simp [go_sem]; done) | (simp [go_sem]; omega)))))⟩

end Go.Proofs.YteogidghoohgaaaDoor
