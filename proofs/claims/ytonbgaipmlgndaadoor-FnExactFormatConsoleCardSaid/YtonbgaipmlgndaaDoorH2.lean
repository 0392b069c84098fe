/- Appending a record to a log, in both packages. -/
import Derived.Test.YtonbgaipmlgndaaDoorH1
import Derived.Deep.RegionHeld3
import Derived.Deep.RegionWith
import Derived.Deep.DrawnRows
import Derived.IntWalk
namespace Go.Proofs.YtonbgaipmlgndaaDoor
open Go.RowKit

attribute [local go_sem ↓] Go.wp_at_zero Go.wp_at_succ
def appF (l : LogR) (e : RecR) : LogR × Int := if l.ok && e.ok then (if l.n = 60 then (l, 2) else (⟨l.d, l.p ++ lineV l.n.toNat e, l.n + 1⟩, 0)) else (l, 1)
theorem LogR.count {l : LogR} (h : l.ok = true) : 0 ≤ l.n ∧ l.n ≤ 60 := by
  obtain ⟨_, h2, _⟩ := l.ok_iff.1 h
  have := opensF_len (bl (l.d ++ l.p))
  unfold LogR.recs at h2
  omega
theorem lineV_size {e : RecR} (h : e.ok = true) {k : Nat} (hk : k < 60) : (lineV k e).size ≤ 400 := by
  have h1 := line_len h k hk
  have h2 := bl_len (lineV k e)
  rw [lineV_bytes, List.length_append, List.length_singleton] at h2
  omega
end Go.Proofs.YtonbgaipmlgndaaDoor
