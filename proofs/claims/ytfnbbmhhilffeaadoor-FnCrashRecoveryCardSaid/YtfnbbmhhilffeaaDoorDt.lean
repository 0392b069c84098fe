/- Texts drawn from the code, in the seats of logs. -/
import Derived.Test.YtfnbbmhhilffeaaDoorE6
import Derived.Test.YtfnbbmhhilffeaaDoorG5
import Derived.Test.YtfnbbmhhilffeaaDoorAl
import Derived.Laws.IdiomStrings
import Derived.Deep.CutBlock
import Derived.Deep.RegionHeld3
import Derived.Deep.RegionWith
import Derived.Deep.DrawnRows
import Derived.Deep.DeepCutAuto
namespace Go.Proofs.YtfnbbmhhilffeaaDoor
open Go.RowKit

attribute [local go_sem ↓] Go.wp_at_zero Go.wp_at_succ
theorem tcellsD {w : World} {b off : Nat} {l : List ByteArray} (hc : ∀ i (hi : i < l.length) j u, (strRow l[i])[j]? = some u → w.cell? ⟨b, off + i * 1 + j, none⟩ = some u) {k : Nat} (hk : k < l.length) :
    w.cell? ⟨b, off + k, none⟩ = some (.string l[k]) := by
  have := hc k hk 0 _ rfl
  simpa using this

theorem sl_litT (w : World) (l : List ByteArray) (cs : Array Value) (hcs : cs = (l.map Value.string).toArray) (t : TypeId) : Sl (w.alloc (.cells cs t)) 1 strRow (some ⟨w.heap.size, 0, none⟩) l := by
  refine Sl.of_blk (Blk.new w t cs) ?_
  subst hcs
  intro i hi _ j u hu
  have hj := (List.getElem?_eq_some_iff.1 hu).1
  simp [strRow] at hj
  subst hj
  simp [strRow] at hu
  simp [hi, hu]
set_option maxHeartbeats 1000000 in
theorem s_of (w0 : World) (g : Nat) (A : Option Addr) (c : Nat) (bs : List Int) (M : Int) (l : List ByteArray) (B : Option Addr) (d : Nat) (w : World) (hA : Code0 w0 A bs) (hC : CurU w0 w g A c bs M) (h1 : M ≤ 1099511627000) (hB : Sl w 1 strRow B l) (hne : ∀ a, B = some a → a.block ≠ g) (hl : 0 < l.length) (h2 : l.length ≤ 1048576) :
    Calls Tryd.prog 44 #[.pointer (some ⟨g, 0, none⟩), .slice B l.length d] w fun e w' => (∃ x, e = .returned (.string x) ∧ x ∈ l) ∧ CurU w0 w' g A c bs (M + 2) ∧ w.grownBy w' (some g) := by
  have HC := hid hC
  have HB := hid hB
  clear hC hB
  go_enter Tryd.func44, Tryd.ntmps44
  go_wp2_with fail
  refine (s_pick w0 g A c bs M l.length _ hA HC.out h1 (by omega)).mono ?_
  rintro e w1 ⟨⟨x, rfl, x0, x1⟩, hC1, hG1⟩
  obtain ⟨k, hk0⟩ : ∃ k : Nat, x = (k : Int) := ⟨x.toNat, by omega⟩
  subst hk0
  have hk : k < l.length := by omega
  obtain ⟨b, off, hBe, hb, hc⟩ := (sl_kept HB.out hG1 hne).at_ hk
  subst hBe
  have hc0 := tcellsD hc hk
  have HC1 := hid hC1
  have HG1 := hid hG1
  clear hC1 hG1 hc hne
  go_wp2_with fail
  go_ret
  exact ⟨⟨_, rfl, List.getElem_mem hk⟩, HC1.out, HG1.out⟩
/-- One of some texts that are written out. -/
theorem s_ofL (w0 : World) (g : Nat) (A : Option Addr) (c : Nat) (bs : List Int) (M : Int) (l : List ByteArray) (cs : Array Value) (hcs : cs = (l.map Value.string).toArray) (d b : Nat) (w : World) (hb : b = w.heap.size) (hA : Code0 w0 A bs) (hC : CurU w0 w g A c bs M) (h1 : M ≤ 1099511627000) (hl : 0 < l.length) (h2 : l.length ≤ 1048576) :
    Calls Tryd.prog 44 #[.pointer (some ⟨g, 0, none⟩), .slice (some ⟨b, 0, none⟩) l.length d] (w.alloc (.cells cs 9)) fun e w' => (∃ x, e = .returned (.string x) ∧ x ∈ l) ∧ CurU w0 w' g A c bs (M + 2) ∧ w.grownBy w' (some g) := by
  subst hb
  refine (s_of w0 g A c bs M l _ d _ hA (hC.grew' (by (repeat (first | with_reducible exact grew_refl _ | with_reducible assumption | with_reducible refine grew_split ?_ | with_reducible refine grew_mk ?_ | with_reducible refine grew_plus ?_ | with_reducible refine grew_alloc ?_ | with_reducible refine grew_drew ?_ | (with_reducible refine grew_set ?_ (by first | exact Nat.le_refl _ | omega | (simp [go_sem]; done) | (simp [go_sem]; omega))))))) h1 (sl_litT w l cs hcs _) (fun a ha => by injection ha with ha; subst ha; have := hC.lt; simp; omega) hl h2).mono ?_
  rintro e w' ⟨hx, hc, hg⟩
  exact ⟨hx, hc, (grown_of_grew (by (repeat (first | with_reducible exact grew_refl _ | with_reducible assumption | with_reducible refine grew_split ?_ | with_reducible refine grew_mk ?_ | with_reducible refine grew_plus ?_ | with_reducible refine grew_alloc ?_ | with_reducible refine grew_drew ?_ | (with_reducible refine grew_set ?_ (by first | exact Nat.le_refl _ | omega | (simp [go_sem]; done) | (simp [go_sem]; omega)))))) _).trans hg⟩
end Go.Proofs.YtfnbbmhhilffeaaDoor
