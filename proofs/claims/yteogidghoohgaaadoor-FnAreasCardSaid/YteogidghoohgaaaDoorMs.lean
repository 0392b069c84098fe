/- The laws' functions on lists of texts: comparison of equal ones, marks, what is held of them. -/
import Derived.Test.YteogidghoohgaaaDoorMk
import Derived.Test.YteogidghoohgaaaDoorMt
namespace Go.Proofs.YteogidghoohgaaaDoor
open Go.RowKit

def strRow (s : ByteArray) : List Value := [.string s]
theorem strRow_len (s : ByteArray) : (strRow s).length = 1 := rfl
theorem strRow_one (s : ByteArray) : ∀ u ∈ strRow s, u.oneCell' = true := by
  intro u hu
  simp [strRow] at hu
  subst hu; rfl
theorem tcells {w : World} {b off : Nat} {l : List ByteArray} (hc : ∀ i (hi : i < l.length) j u, (strRow l[i])[j]? = some u → w.cell? ⟨b, off + i * 1 + j, none⟩ = some u) {k : Nat} (hk : k < l.length) :
    w.cell? ⟨b, off + k, none⟩ = some (.string l[k]) := by
  have := hc k hk 0 _ rfl
  simpa using this
theorem str_info : (Tryd.prog.info? 9).map (fun i => (i.zero, i.size, i.bytes)) = some (some (.string ByteArray.empty), 1, 16) := by kernel_rfl
def marksT (k : Int) (n : Nat) : List ByteArray := (List.range n).map fun (i : Nat) => markT (k + (i : Int))
theorem marksT_len (k : Int) (n : Nat) : (marksT k n).length = n := by simp [marksT]
theorem marksT_get (k : Int) (n i : Nat) (hi : i < (marksT k n).length) : (marksT k n)[i] = markT (k + (i : Int)) := by simp [marksT]
end Go.Proofs.YteogidghoohgaaaDoor
