/- The laws' conversions of lists of records. -/
import Derived.Test.YtfnbbmhhilffeaaDoorG8
import Derived.Test.YtfnbbmhhilffeaaDoorMt
namespace Go.Proofs.YtfnbbmhhilffeaaDoor
open Go.RowKit

theorem rcells {w : World} {b off : Nat} {l : List RecR} (hc : ∀ i (hi : i < l.length) j u, (RecR.row l[i])[j]? = some u → w.cell? ⟨b, off + i * 2 + j, none⟩ = some u) {k : Nat} (hk : k < l.length) :
    w.cell? ⟨b, off + k * 2, none⟩ = some (.string l[k].c) ∧ w.cell? ⟨b, off + k * 2 + 1, none⟩ = some (.string l[k].r) :=
  ⟨hc k hk 0 _ rfl, hc k hk 1 _ rfl⟩
def marksR (k : Int) (n : Nat) : List RecR := (List.range n).map fun (i : Nat) => ⟨markT (k + 2 * (i : Int)), markT (k + 2 * (i : Int) + 1)⟩
theorem marksR_len (k : Int) (n : Nat) : (marksR k n).length = n := by simp [marksR]
theorem marksR_get (k : Int) (n i : Nat) (hi : i < (marksR k n).length) : (marksR k n)[i] = ⟨markT (k + 2 * (i : Int)), markT (k + 2 * (i : Int) + 1)⟩ := by simp [marksR]
end Go.Proofs.YtfnbbmhhilffeaaDoor
