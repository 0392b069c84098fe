/- The laws' conversions of lists of ints: copies, comparison of equal ones, marks. -/
import Derived.Test.YtjlaidjogladaaaDoorMk
import Derived.Test.YtjlaidjogladaaaDoorProg
namespace Go.Proofs.YtjlaidjogladaaaDoor
open Go.RowKit

def intRow (n : Int) : List Value := [.int .i64 n]
theorem intRow_len (n : Int) : (intRow n).length = 1 := rfl
theorem icells {w : World} {b off : Nat} {l : List Int} (hc : ∀ i (hi : i < l.length) j u, (intRow l[i])[j]? = some u → w.cell? ⟨b, off + i * 1 + j, none⟩ = some u) {k : Nat} (hk : k < l.length) :
    w.cell? ⟨b, off + k, none⟩ = some (.int .i64 l[k]) := by
  have := hc k hk 0 _ rfl
  simpa using this
theorem int_info : (Tryd.prog.info? 3).map (fun i => (i.zero, i.size, i.bytes)) = some (some (.int .i64 0), 1, 8) := by kernel_rfl
def marksI (k : Int) (n : Nat) : List Int := (List.range n).map fun (i : Nat) => k + (i : Int)
theorem marksI_len (k : Int) (n : Nat) : (marksI k n).length = n := by simp [marksI]
theorem marksI_get (k : Int) (n i : Nat) (hi : i < (marksI k n).length) : (marksI k n)[i] = k + i := by simp [marksI]
end Go.Proofs.YtjlaidjogladaaaDoor
