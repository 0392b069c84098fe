/- What the functions on logs return, in both packages; the laws' conversions. -/
import Derived.Test.YtonbgaipmlgndaaDoorG9
namespace Go.Proofs.YtonbgaipmlgndaaDoor
open Go.RowKit

def zLog : LogR := ⟨⟨#[]⟩, ⟨#[]⟩, 0⟩
theorem LogR.ext' {a b : LogR} (h1 : a.d = b.d) (h2 : a.p = b.p) (h3 : a.n = b.n) : a = b := by cases a; cases b; simp_all
/-- The encoding of a record, if it has one. -/
def encF (k : Int) (e : RecR) : ByteArray × Bool := if inB k 0 59 && e.ok then (lineV k.toNat e, true) else (⟨#[]⟩, false)
/-- What is recovered of a text. -/
def recovF (s : ByteArray) : LogR × Int × Bool := if 30000 < s.size then (zLog, 0, false) else (⟨s.extract 0 (endOf (opensF (bl s))), ⟨#[]⟩, (opensF (bl s)).length⟩, endOf (opensF (bl s)), true)
/-- A log with nothing pending. -/
def syncF (l : LogR) : LogR × Bool := if l.ok then (⟨l.d ++ l.p, ⟨#[]⟩, l.n⟩, true) else (zLog, false)
set_option maxHeartbeats 400000 in
theorem l_toLog (l : LogR) (w : World) :
    Calls Tryd.prog 16 #[l.val] w fun e w' => e = .returned l.val ∧ ∃ g, w' = plus w g := by
  go_enter Tryd.func16, Tryd.ntmps16
  go_wp2
  refine bodyPost_ret (v := l.val) (by simp [results, Tryd.results16, go_sem]) rfl ⟨rfl, ?_⟩
  (repeat (first | with_reducible exact grew_refl _ | with_reducible assumption | with_reducible refine grew_split ?_ | with_reducible refine grew_mk ?_ | with_reducible refine grew_plus ?_ | with_reducible refine grew_alloc ?_ | with_reducible refine grew_drew ?_ | (with_reducible refine grew_set ?_ (by first | exact Nat.le_refl _ | omega | (simp [go_sem]; done) | (simp [go_sem]; omega)))))
set_option maxHeartbeats 400000 in
theorem l_szLog (l : LogR) (k : Int) (w : World) (h1 : l.d.size ≤ maxLen) (h2 : l.p.size ≤ maxLen) (h3 : -1 ≤ k) (h4 : k ≤ 1048576) :
    Calls Tryd.prog 13 #[l.val, .int .i64 k] w fun e w' => (∃ z : Int, e = .returned (.int .i64 z) ∧ -1 ≤ z ∧ z ≤ 1048576 ∧ (0 ≤ z → l.d.size ≤ 1048576 ∧ l.p.size ≤ 1048576)) ∧ ∃ g, w' = plus w g := by
  unfold maxLen at h1 h2
  obtain ⟨d, p, n⟩ := l
  simp only at h1 h2
  go_enter Tryd.func13, Tryd.ntmps13
  go_wp2
  all_goals
    go_ret
    exact ⟨⟨_, rfl, by first | omega | (simp; omega), by first | omega | (simp; omega), by intro hz; first | omega | (simp at hz; omega)⟩, by (repeat (first | with_reducible exact grew_refl _ | with_reducible assumption | with_reducible refine grew_split ?_ | with_reducible refine grew_mk ?_ | with_reducible refine grew_plus ?_ | with_reducible refine grew_alloc ?_ | with_reducible refine grew_drew ?_ | (with_reducible refine grew_set ?_ (by first | exact Nat.le_refl _ | omega | (simp [go_sem]; done) | (simp [go_sem]; omega)))))⟩
set_option maxHeartbeats 400000 in
theorem l_eqLog (l : LogR) (w : World) :
    Calls Tryd.prog 20 #[l.val, l.val] w fun e w' => e = .returned (.bool true) ∧ ∃ g, w' = plus w g := by
  have e1 : (l.d.toList == l.d.toList) = true := by simp
  have e2 : (l.p.toList == l.p.toList) = true := by simp
  have e3 : (l.n == l.n) = true := by simp
  go_enter Tryd.func20, Tryd.ntmps20
  go_wp2
  go_ret
  exact ⟨rfl, by (repeat (first | with_reducible exact grew_refl _ | with_reducible assumption | with_reducible refine grew_split ?_ | with_reducible refine grew_mk ?_ | with_reducible refine grew_plus ?_ | with_reducible refine grew_alloc ?_ | with_reducible refine grew_drew ?_ | (with_reducible refine grew_set ?_ (by first | exact Nat.le_refl _ | omega | (simp [go_sem]; done) | (simp [go_sem]; omega)))))⟩
end Go.Proofs.YtonbgaipmlgndaaDoor
