/- The laws' conversions of lists of lights: sizes, copies, comparison of equal ones. -/
import Derived.Test.YtjlaidjogladaaaDoorLi2
import Derived.Test.YtjlaidjogladaaaDoorMk
namespace Go.Proofs.YtjlaidjogladaaaDoor
open Go.RowKit

theorem lt6 {w : World} {b off : Nat} {l : List LightV} (hc : ∀ i (hi : i < l.length) j u, (LightV.row l[i])[j]? = some u → w.cell? ⟨b, off + i * 6 + j, none⟩ = some u) {k : Nat} (hk : k < l.length) :
    w.cell? ⟨b, off + k * 6, none⟩ = some (.int .i64 l[k].core.id) ∧ w.cell? ⟨b, off + k * 6 + 1, none⟩ = some (.string l[k].core.nm) ∧ w.cell? ⟨b, off + k * 6 + 2, none⟩ = some (.int .i64 l[k].core.x) ∧
    w.cell? ⟨b, off + k * 6 + 3, none⟩ = some (.int .i64 l[k].core.y) ∧ w.cell? ⟨b, off + k * 6 + 4, none⟩ = some (.int .i64 l[k].core.range) ∧ w.cell? ⟨b, off + k * 6 + 5, none⟩ = some (.slice l[k].A l[k].core.ph.length l[k].c) :=
  ⟨hc k hk 0 _ rfl, hc k hk 1 _ rfl, hc k hk 2 _ rfl, hc k hk 3 _ rfl, hc k hk 4 _ rfl, hc k hk 5 _ rfl⟩
/-- Lists of lights with the same cores. -/
def Alike (L M : List LightV) : Prop := L.length = M.length ∧ ∀ i (h : i < L.length) (h' : i < M.length), L[i].core = M[i].core
theorem Filled.push {α : Type} {cs : Array Value} {s : Nat} {cells : α → List Value} {l : List α} {x : α} (h : Filled cs s cells l l.length) (hs : ∀ x, (cells x).length = s) (hz : (l.length + 1) * s ≤ cs.size) :
    Filled (put cs (l.length * s) (cells x)) s cells (l ++ [x]) (l ++ [x]).length := by
  have h1 : Filled cs s cells (l ++ [x]) l.length := by
    intro i hi hik j u hu
    rw [List.getElem_append_left hik] at hu
    exact h i hik hik j u hu
  have h2 := h1.step (by simp) (fun y _ => hs y) (by simpa using hz)
  simpa using h2
end Go.Proofs.YtjlaidjogladaaaDoor
