/- The reference's draw of a log. (draft) -/
import Derived.Test.YtfnbbmhhilffeaaDoorDm
import Derived.Test.YtfnbbmhhilffeaaDoorH2
namespace Go.Proofs.YtfnbbmhhilffeaaDoor
open Go.RowKit

attribute [local go_sem ↓] Go.wp_at_zero Go.wp_at_succ
/-- A log of which no more than so many records were made. -/
def Lg (k : Nat) (l : LogR) : Prop := l.d.size + l.p.size ≤ 400 * k ∧ 0 ≤ l.n ∧ l.n ≤ k
theorem Lg.app {k : Nat} {l : LogR} (h : Lg k l) (e : RecR) : Lg (k + 1) (appF l e).1 := by
  obtain ⟨h1, h2, h3⟩ := h
  unfold appF
  split
  · rename_i hc
    simp only [Bool.and_eq_true] at hc
    split
    · exact ⟨by simp only; omega, by simp only; omega, by simp only; omega⟩
    · have := LogR.count hc.1
      have hz := lineV_size hc.2 (k := l.n.toNat) (by omega)
      refine ⟨?_, by simp only; omega, by simp only; omega⟩
      simp only [ByteArray.size_append]; omega
  · exact ⟨by simp only; omega, by simp only; omega, by simp only; omega⟩
theorem Lg.sync {k : Nat} {l : LogR} (h : Lg k l) : Lg k (syncF l).1 := by
  obtain ⟨h1, h2, h3⟩ := h
  unfold syncF
  split
  · refine ⟨?_, h2, h3⟩
    simp only [ByteArray.size_append]
    show _ + 0 ≤ _
    omega
  · exact ⟨by show 0 + 0 ≤ _; omega, by show (0 : Int) ≤ 0; omega, by show (0 : Int) ≤ _; omega⟩
theorem Lg.le {k m : Nat} {l : LogR} (h : Lg k l) (hm : k ≤ m) : Lg m l := ⟨by have := h.1; omega, h.2.1, by have := h.2.2; omega⟩
end Go.Proofs.YtfnbbmhhilffeaaDoor
