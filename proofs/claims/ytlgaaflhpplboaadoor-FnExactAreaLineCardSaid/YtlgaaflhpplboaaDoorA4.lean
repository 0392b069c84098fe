/- Looking for an area by its name, in both packages. -/
import Derived.Test.YtlgaaflhpplboaaDoorA2
namespace Go.Proofs.YtlgaaflhpplboaaDoor
open Go.RowKit

def nameIs (s : ByteArray) (r : AreaR) : Bool := r.nm.toList == s.toList
/-- Where the first k rows hold no area of that name. -/
def noName (l : List AreaR) (s : ByteArray) (k : Nat) : Bool := allUpto (fun i => if h : i < l.length then !nameIs s l[i] else true) k
def findI (l : List AreaR) (s : ByteArray) : Int := match l.findIdx? (nameIs s) with | some i => i | none => -1
theorem findI_hit {l : List AreaR} {s : ByteArray} {k : Nat} (hk : k < l.length) (h0 : noName l s k = true) (h : nameIs s l[k] = true) : findI l s = k := by
  have : l.findIdx? (nameIs s) = some k := by
    rw [List.findIdx?_eq_some_iff_getElem]
    refine ⟨hk, h, fun j hj => ?_⟩
    have := allUpto_iff.1 h0 j hj
    simp only [show j < l.length by omega, ↓reduceDIte, Bool.not_eq_true'] at this
    simp [this]
  simp [findI, this]
theorem findI_none {l : List AreaR} {s : ByteArray} (h0 : noName l s l.length = true) : findI l s = -1 := by
  have : l.findIdx? (nameIs s) = none := by
    rw [List.findIdx?_eq_none_iff]
    intro x hx
    obtain ⟨i, hi, rfl⟩ := List.mem_iff_getElem.1 hx
    have := allUpto_iff.1 h0 i hi
    simpa [hi] using this
  simp [findI, this]
theorem findI_lt (l : List AreaR) (s : ByteArray) : findI l s < l.length := by
  unfold findI
  split
  · rename_i i h
    have := (List.findIdx?_eq_some_iff_getElem.1 h).1
    omega
  · omega
theorem findI_ge (l : List AreaR) (s : ByteArray) : -1 ≤ findI l s := by
  unfold findI
  split <;> omega
theorem noName_step {l : List AreaR} {s : ByteArray} {k : Nat} (hk : k < l.length) (h0 : noName l s k = true) (h : nameIs s l[k] = false) : noName l s (k + 1) = true :=
  allUpto_step h0 (by simp [hk, h])

end Go.Proofs.YtlgaaflhpplboaaDoor
