/- MinutesToDo and ShareOfAll in both packages. -/
import Derived.Test.YtlgaaflhpplboaaDoorA4
import Derived.Test.YtlgaaflhpplboaaDoorL2
namespace Go.Proofs.YtlgaaflhpplboaaDoor
open Go.RowKit

theorem areasB_ok {l : List AreaR} (h : areasB l = true) {k : Nat} (hk : k < l.length) : l[k].ok = true := by
  simp only [areasB, Bool.and_eq_true] at h
  have := allUpto_iff.1 h.1 k hk
  simp only [areaStep, hk, ↓reduceDIte, Bool.and_eq_true] at this
  exact this.1
theorem areasB_len {l : List AreaR} (h : areasB l = true) : l.length ≤ 10 := by
  simp only [areasB, Bool.and_eq_true, decide_eq_true_eq] at h
  exact h.2
theorem AreaR.bounds {r : AreaR} (h : r.ok = true) : 1 ≤ r.cells ∧ r.cells ≤ 9999 ∧ 0 ≤ r.cov ∧ r.cov ≤ r.cells ∧ -1000 ≤ r.least ∧ r.least ≤ 20000 ∧ 0 ≤ r.spread ∧ r.spread ≤ 999 ∧ 0 ≤ r.minutes ∧ r.minutes ≤ 99999 ∧ (0 < r.cov ∨ r.least = 0 ∧ r.spread = 0) ∧ r.nm.size ≤ 10 := by
  simp only [AreaR.ok, inB, Bool.and_eq_true, Bool.or_eq_true, decide_eq_true_eq, beq_iff_eq] at h
  have := wordB_size h.1.1.1.1.1.1
  grind
theorem findI_cases {l : List AreaR} {s : ByteArray} : findI l s = -1 ∨ ∃ k : Nat, k < l.length ∧ findI l s = k := by
  have h1 := findI_ge l s
  have h2 := findI_lt l s
  by_cases h : findI l s < 0
  · left; omega
  · right; exact ⟨(findI l s).toNat, by omega, by omega⟩

def find2 (l : List AreaR) (s : ByteArray) : Int := if areasB l then findI l s else -1
theorem find2_bad {l : List AreaR} {s : ByteArray} (h : areasB l = false) : find2 l s = -1 := by simp [find2, h]
theorem find2_good {l : List AreaR} {s : ByteArray} (h : areasB l = true) : find2 l s = findI l s := by simp [find2, h]
theorem find2_none {l : List AreaR} {s : ByteArray} (h : findI l s = -1) : find2 l s = -1 := by simp [find2, h]

/-- What is left to do, and whether that can be told. -/
def minutesF (l : List AreaR) (s : ByteArray) : Int × Bool :=
  if areasB l then (match l.findIdx? (nameIs s) with
    | some i => match l[i]? with
      | some r => if r.cov = 0 then (0, false) else ((r.minutes * (r.cells - r.cov) + r.cov - 1) / r.cov, true)
      | none => (0, false)
    | none => (0, false)) else (0, false)
theorem minutesF_bad {l : List AreaR} {s : ByteArray} (h : areasB l = false) : minutesF l s = (0, false) := by simp [minutesF, h]
theorem minutesF_none {l : List AreaR} {s : ByteArray} (h : findI l s = -1) : minutesF l s = (0, false) := by
  unfold minutesF findI at *
  split
  · split
    · rename_i h'; rw [h'] at h; dsimp only at h; omega
    · rfl
  · rfl
theorem minutesF_some {l : List AreaR} {s : ByteArray} {k : Nat} (hk : k < l.length) (hg : areasB l = true) (h : findI l s = k) :
    minutesF l s = if l[k].cov = 0 then (0, false) else ((l[k].minutes * (l[k].cells - l[k].cov) + l[k].cov - 1) / l[k].cov, true) := by
  unfold minutesF findI at *
  rw [if_pos hg]
  split
  · rename_i i h'
    rw [h'] at h
    simp only [Int.natCast_inj] at h
    subst h
    rw [List.getElem?_eq_getElem hk]
  · rename_i h'; rw [h'] at h; dsimp only at h; omega
theorem ret_ib {a b : Int} {c d : Bool} (h : a = b) (h' : c = d) : Ending.returned (.tuple #[.int .i64 a, .bool c]) = .returned (.tuple #[.int .i64 b, .bool d]) := by rw [h, h']

end Go.Proofs.YtlgaaflhpplboaaDoor
