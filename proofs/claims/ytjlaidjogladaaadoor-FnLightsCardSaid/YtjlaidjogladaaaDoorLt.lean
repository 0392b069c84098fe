/- Texts, spots and moments drawn from the code, in the seats of lights. -/
import Derived.Test.YtjlaidjogladaaaDoorE6
import Derived.Test.YtjlaidjogladaaaDoorLi1
import Derived.Test.YtjlaidjogladaaaDoorAl
import Derived.Laws.IdiomStrings
import Derived.Deep.CutBlock
import Derived.Deep.RegionWith
import Derived.Deep.DrawnRows
import Derived.Deep.DeepCutAuto
namespace Go.Proofs.YtjlaidjogladaaaDoor
open Go.RowKit

attribute [local go_sem ↓] Go.wp_at_zero Go.wp_at_succ
def strRow (x : ByteArray) : List Value := [.string x]
theorem tcellsL {w : World} {b off : Nat} {l : List ByteArray} (hc : ∀ i (hi : i < l.length) j u, (strRow l[i])[j]? = some u → w.cell? ⟨b, off + i * 1 + j, none⟩ = some u) {k : Nat} (hk : k < l.length) :
    w.cell? ⟨b, off + k, none⟩ = some (.string l[k]) := by
  have := hc k hk 0 _ rfl
  simpa using this
theorem sl_litT (w : World) (l : List ByteArray) (cs : Array Value) (hcs : cs = (l.map Value.string).toArray) (t : TypeId) : Sl (w.alloc (.cells cs t)) 1 strRow (some ⟨w.heap.size, 0, none⟩) l := by
  refine Sl.of_blk (Blk.new w t cs) ?_
  subst hcs
  intro i hi _ j u hu
  have hj := (List.getElem?_eq_some_iff.1 hu).1
  simp [strRow] at hj
  subst hj
  simp [strRow] at hu
  simp [hi, hu]
theorem sl_takeL {α : Type} {w : World} {s : Nat} {cells : α → List Value} {A : Option Addr} {l : List α} (m : Nat) (h : Sl w s cells A l) : Sl w s cells A (l.take m) := by
  rcases h with h | ⟨b, off, hA, hlt, hc⟩
  · exact .inl (by rw [h]; simp)
  · exact .inr ⟨b, off, hA, hlt, fun i hi j u hu => by
      have hi' : i < l.length := by simp at hi; omega
      rw [List.getElem_take] at hu
      exact hc i hi' j u hu⟩
set_option maxHeartbeats 1000000 in
theorem s_of (w0 : World) (g : Nat) (A : Option Addr) (c : Nat) (bs : List Int) (M : Int) (l : List ByteArray) (B : Option Addr) (d : Nat) (w : World) (hA : Code0 w0 A bs) (hC : CurU w0 w g A c bs M) (h1 : M ≤ 1099511627000) (hB : Sl w 1 strRow B l) (hne : ∀ a, B = some a → a.block ≠ g) (hl : 0 < l.length) (h2 : l.length ≤ 1048576) :
    Calls Tryd.prog 33 #[.pointer (some ⟨g, 0, none⟩), .slice B l.length d] w fun e w' => (∃ x, e = .returned (.string x) ∧ x ∈ l) ∧ CurU w0 w' g A c bs (M + 2) ∧ w.grownBy w' (some g) := by
  have HC := hid hC
  have HB := hid hB
  clear hC hB
  go_enter Tryd.func33, Tryd.ntmps33
  go_wp2_with fail
  refine (s_pick w0 g A c bs M l.length _ hA HC.out h1 (by omega)).mono ?_
  rintro e w1 ⟨⟨x, rfl, x0, x1⟩, hC1, hG1⟩
  obtain ⟨k, hk0⟩ : ∃ k : Nat, x = (k : Int) := ⟨x.toNat, by omega⟩
  subst hk0
  have hk : k < l.length := by omega
  obtain ⟨b, off, hBe, hb, hc⟩ := (sl_kept HB.out hG1 hne).at_ hk
  subst hBe
  have hc0 := tcellsL hc hk
  have HC1 := hid hC1
  have HG1 := hid hG1
  clear hC1 hG1 hc hne
  go_wp2_with fail
  go_ret
  exact ⟨⟨_, rfl, List.getElem_mem hk⟩, HC1.out, HG1.out⟩
/-- One of some texts that are written out. -/
theorem s_ofL (w0 : World) (g : Nat) (A : Option Addr) (c : Nat) (bs : List Int) (M : Int) (l : List ByteArray) (cs : Array Value) (hcs : cs = (l.map Value.string).toArray) (d b : Nat) (w : World) (hb : b = w.heap.size) (hA : Code0 w0 A bs) (hC : CurU w0 w g A c bs M) (h1 : M ≤ 1099511627000) (hl : 0 < l.length) (h2 : l.length ≤ 1048576) :
    Calls Tryd.prog 33 #[.pointer (some ⟨g, 0, none⟩), .slice (some ⟨b, 0, none⟩) l.length d] (w.alloc (.cells cs 9)) fun e w' => (∃ x, e = .returned (.string x) ∧ x ∈ l) ∧ CurU w0 w' g A c bs (M + 2) ∧ w.grownBy w' (some g) := by
  subst hb
  refine (s_of w0 g A c bs M l _ d _ hA (hC.grew' (by (repeat (first | with_reducible exact grew_refl _ | with_reducible assumption | with_reducible refine grew_split ?_ | with_reducible refine grew_mk ?_ | with_reducible refine grew_plus ?_ | with_reducible refine grew_alloc ?_ | with_reducible refine grew_drew ?_ | (with_reducible refine grew_set ?_ (by first | exact Nat.le_refl _ | omega | (simp [go_sem]; done) | (simp [go_sem]; omega))))))) h1 (sl_litT w l cs hcs _) (fun a ha => by injection ha with ha; subst ha; have := hC.lt; simp; omega) hl h2).mono ?_
  rintro e w' ⟨hx, hc, hg⟩
  exact ⟨hx, hc, (grown_of_grew (by (repeat (first | with_reducible exact grew_refl _ | with_reducible assumption | with_reducible refine grew_split ?_ | with_reducible refine grew_mk ?_ | with_reducible refine grew_plus ?_ | with_reducible refine grew_alloc ?_ | with_reducible refine grew_drew ?_ | (with_reducible refine grew_set ?_ (by first | exact Nat.le_refl _ | omega | (simp [go_sem]; done) | (simp [go_sem]; omega)))))) _).trans hg⟩
/-- What is known while a spot is drawn: it lies in its box b. -/
def SRow (w0 w : World) (g : Nat) (A : Option Addr) (c : Nat) (bs : List Int) (M : Int) (b : Nat) (wx : World) : Prop :=
  ∃ x y : Int, Blk wx b 25 #[.int .i64 x, .int .i64 y] ∧ CurU w0 wx g A c bs M ∧ w.grownBy wx (some g) ∧ Blk wx w.heap.size 25 #[.int .i64 0, .int .i64 0]
set_option maxHeartbeats 2000000 in
set_option maxRecDepth 100000 in
theorem s_spot (w0 : World) (g : Nat) (A : Option Addr) (c : Nat) (bs : List Int) (M : Int) (w : World) (hA : Code0 w0 A bs) (hC : CurU w0 w g A c bs M) (h1 : M ≤ 1099511620000) :
    Calls Tryd.prog 34 #[.pointer (some ⟨g, 0, none⟩)] w fun e w' => (∃ x y : Int, e = .returned (.agg #[.int .i64 x, .int .i64 y])) ∧ CurU w0 w' g A c bs (M + 10) ∧ w.grownBy w' (some g) := by
  have HC := hid hC
  have hgl := hC.lt
  have hgf := hC.far
  clear hC
  go_enter Tryd.func34, Tryd.ntmps34
  go_wp2_with fail
  refine (s_amongL w0 g A c bs M [0, 10, 20, 30, 50, 100, 1000] _ rfl _ _ _ (by simp) hA (HC.out.grew' (by (repeat (first | with_reducible exact grew_refl _ | with_reducible assumption | with_reducible refine grew_split ?_ | with_reducible refine grew_mk ?_ | with_reducible refine grew_plus ?_ | with_reducible refine grew_alloc ?_ | with_reducible refine grew_drew ?_ | (with_reducible refine grew_set ?_ (by first | exact Nat.le_refl _ | omega | (simp [go_sem]; done) | (simp [go_sem]; omega))))))) (by omega) (by decide) (by decide)).mono ?_
  rintro e w1 ⟨⟨x1, rfl, -⟩, hC1, hG1⟩
  have HC1 := hid hC1
  have HG1 := hid ((grown_of_grew (w := w) (by (repeat (first | with_reducible exact grew_refl _ | with_reducible assumption | with_reducible refine grew_split ?_ | with_reducible refine grew_mk ?_ | with_reducible refine grew_plus ?_ | with_reducible refine grew_alloc ?_ | with_reducible refine grew_drew ?_ | (with_reducible refine grew_set ?_ (by first | exact Nat.le_refl _ | omega | (simp [go_sem]; done) | (simp [go_sem]; omega)))))) (some g)).trans hG1)
  have HR1 := hid ((blk_new (w := w) rfl).grown hG1 (fun e => by injection e with e; omega))
  clear hC1 hG1
  go_wp2_with fail
  refine (s_amongL w0 g A c bs _ [0, 10, 20, 40, 60, 100, 1000] _ rfl _ _ _ (by simp) hA HC1.out (by omega) (by decide) (by decide)).mono ?_
  rintro e w2 ⟨⟨x2, rfl, -⟩, hC2, hG2⟩
  have HC2 := hid hC2
  have HG2 := hid (HG1.out.trans hG2)
  have HR2 := hid (HR1.out.grown hG2 (fun e => by injection e with e; omega))
  clear hC2 hG2 HR1 HG1 HC1
  go_upto_region 2 with fail
  generalize hb5 : w2.heap.size = b5
  have hsz2 := HG2.out.size
  refine opq_wp (fun wx => SRow w0 w g A c bs (M + 4) b5 wx) ⟨x1, x2, blk_new hb5.symm, (HC2.out.grew' (by (repeat (first | with_reducible exact grew_refl _ | with_reducible assumption | with_reducible refine grew_split ?_ | with_reducible refine grew_mk ?_ | with_reducible refine grew_plus ?_ | with_reducible refine grew_alloc ?_ | with_reducible refine grew_drew ?_ | (with_reducible refine grew_set ?_ (by first | exact Nat.le_refl _ | omega | (simp [go_sem]; done) | (simp [go_sem]; omega))))))).le (by omega), HG2.out.trans (grown_of_grew (by (repeat (first | with_reducible exact grew_refl _ | with_reducible assumption | with_reducible refine grew_split ?_ | with_reducible refine grew_mk ?_ | with_reducible refine grew_plus ?_ | with_reducible refine grew_alloc ?_ | with_reducible refine grew_drew ?_ | (with_reducible refine grew_set ?_ (by first | exact Nat.le_refl _ | omega | (simp [go_sem]; done) | (simp [go_sem]; omega)))))) _), HR2.out.alloc _⟩ ?_
  have hb5w : w.heap.size + 1 ≤ b5 := by rw [← hb5]; have h := HR2.out.lt; omega
  clear HC2 HG2 HR2 hb5 hsz2
  rintro wq ⟨x, y, hB, hC, hG, hR⟩
  have HB := hid hB
  have HC := hid hC
  have HG := hid hG
  have HR := hid hR
  clear hB hC hG hR
  go_wp2_with fail
  refine (s_one w0 g A c bs _ 48 _ hA HC.out (by omega) (by omega)).mono ?_
  rintro e w3 ⟨⟨b, rfl⟩, hC3, hG3⟩
  have HC3 := hid hC3
  have HB3 := hid (HB.out.grown hG3 (fun e => by injection e with e; omega))
  have HR3 := hid (HR.out.grown hG3 (fun e => by injection e with e; omega))
  have HG3 := hid (HG.out.trans hG3)
  clear hC3 hG3 HB HC HG HR
  go_upto_if 12 with fail
  go_cut [3] (fun p wx => p = .pointer (some ⟨b5, 0, none⟩) ∧ SRow w0 w g A c bs (M + 8) b5 wx)
  case first =>
    cases b
    · go_wp2_with fail
      go_meet
      exact ⟨rfl, x, y, HB3.out, HC3.out.le (by omega), HG3.out, HR3.out⟩
    · go_wp2_with fail
      refine (s_amongL w0 g A c bs _ [-1, 1001] _ rfl _ _ _ (by simp) hA (HC3.out.grew' (by (repeat (first | with_reducible exact grew_refl _ | with_reducible assumption | with_reducible refine grew_split ?_ | with_reducible refine grew_mk ?_ | with_reducible refine grew_plus ?_ | with_reducible refine grew_alloc ?_ | with_reducible refine grew_drew ?_ | (with_reducible refine grew_set ?_ (by first | exact Nat.le_refl _ | omega | (simp [go_sem]; done) | (simp [go_sem]; omega))))))) (by omega) (by decide) (by decide)).mono ?_
      rintro e w4 ⟨⟨x4, rfl, -⟩, hC4, hG4⟩
      have HC4 := hid hC4
      have HB4 := hid (HB3.out.grown hG4 (fun e => by injection e with e; omega))
      have HR4 := hid (HR3.out.grown hG4 (fun e => by injection e with e; omega))
      have HG4 := hid (HG3.out.trans hG4)
      clear hC4 hG4
      have hbl4 := HB4.out.lt
      obtain ⟨⟨_, hq0⟩, ⟨_, hq1⟩, hf0, hf1⟩ := HB4.out.some2 0 (by simp)
      go_wp2_with fail
      go_meet
      exact ⟨rfl, x4, y, HB4.out.set_ 0 _, (HC4.out.kept (grown_set (g := b5) (grown_refl _ _)) (fun k hk => by injection hk with hk; omega)).le (by omega), grown_join HG4.out (grown_set (g := b5) (grown_refl _ _)) (fun k hk => by injection hk with hk; omega), HR4.out.far (by simp; omega) _⟩
  case rest =>
    obtain ⟨rfl, x, y, hB, hC, hG, hR⟩ := hcut
    have HC4 := hid hC
    have HG4 := hid hG
    have hb0 := hB.cell 0
    have hb1 := hB.cell 1
    simp [go_sem] at hb0 hb1
    have hbl := hB.lt
    have hrl := hR.lt
    obtain ⟨⟨_, hq0⟩, ⟨_, hq1⟩, hf0, hf1⟩ := hR.some2 0 (by simp)
    clear hC hG hB hR HB3 HR3 HC3 HG3
    go_wp2_with fail
    refine bodyPost_ret (v := .agg #[.int .i64 x, .int .i64 y]) (by simp [results, Tryd.results34, go_sem, *]) rfl ?_
    exact ⟨⟨x, y, rfl⟩, (HC4.out.kept (grown_set (g := w.heap.size) (grown_set (grown_refl _ _))) (fun k hk => by injection hk with hk; omega)).le (by omega), grown_join HG4.out (grown_set (g := w.heap.size) (grown_set (grown_refl _ _))) (fun k hk => by injection hk with hk; omega)⟩
set_option maxHeartbeats 2000000 in
set_option maxRecDepth 100000 in
theorem s_moment (w0 : World) (g : Nat) (A : Option Addr) (c : Nat) (bs : List Int) (M : Int) (w : World) (hA : Code0 w0 A bs) (hC : CurU w0 w g A c bs M) (h1 : M ≤ 1099511620000) :
    Calls Tryd.prog 17 #[.pointer (some ⟨g, 0, none⟩)] w fun e w' => (∃ m : Int, e = .returned (.int .i64 m) ∧ -1 ≤ m ∧ m ≤ 1000001) ∧ CurU w0 w' g A c bs (M + 10) ∧ w.grownBy w' (some g) := by
  have HC := hid hC
  have hgl := hC.lt
  have hgf := hC.far
  clear hC
  go_enter Tryd.func17, Tryd.ntmps17
  go_wp2_with fail
  refine (s_pick w0 g A c bs _ 24 _ hA (HC.out.grew' (by (repeat (first | with_reducible exact grew_refl _ | with_reducible assumption | with_reducible refine grew_split ?_ | with_reducible refine grew_mk ?_ | with_reducible refine grew_plus ?_ | with_reducible refine grew_alloc ?_ | with_reducible refine grew_drew ?_ | (with_reducible refine grew_set ?_ (by first | exact Nat.le_refl _ | omega | (simp [go_sem]; done) | (simp [go_sem]; omega))))))) (by omega) (by omega)).mono ?_
  rintro e w1 ⟨⟨n, rfl, n0, n1⟩, hC1, hG1⟩
  have HL := hid (sl_kept (sl_lit w [0, 4, 5, 12, 29, 30, 1000, 1000000, -1, 1000001] _ rfl 3) hG1 (fun a ha => by injection ha with ha; subst ha; simp; omega))
  have HC1 := hid hC1
  have HG1 := hid ((grown_of_grew (w := w) (by (repeat (first | with_reducible exact grew_refl _ | with_reducible assumption | with_reducible refine grew_split ?_ | with_reducible refine grew_mk ?_ | with_reducible refine grew_plus ?_ | with_reducible refine grew_alloc ?_ | with_reducible refine grew_drew ?_ | (with_reducible refine grew_set ?_ (by first | exact Nat.le_refl _ | omega | (simp [go_sem]; done) | (simp [go_sem]; omega)))))) (some g)).trans hG1)
  clear hC1 hG1
  have htd := Int.tdiv_eq_ediv_of_nonneg (b := 11) n0
  obtain ⟨m, hm, m0, m1⟩ : ∃ m : Nat, 8 + n.tdiv 11 = (m : Int) ∧ 8 ≤ m ∧ m ≤ 10 := ⟨(8 + n.tdiv 11).toNat, by omega, by omega, by omega⟩
  have HT := hid (sl_takeL m HL.out)
  obtain ⟨L, hLe⟩ : ∃ L : List Int, [0, 4, 5, 12, 29, 30, 1000, 1000000, -1, 1000001].take m = L := ⟨_, rfl⟩
  have hLl : L.length = m := by rw [← hLe]; simp; omega
  have hLm : ∀ x ∈ L, -1 ≤ x ∧ x ≤ 1000001 := fun x hx => by
    rw [← hLe] at hx
    have := List.mem_of_mem_take hx
    simp at this
    omega
  rw [hLe] at HT
  subst hLl
  clear hLe htd HL
  go_wp2_with fail
  refine (s_among w0 g A c bs _ L _ 10 _ hA HC1.out (by omega) HT.out (fun a ha => by injection ha with ha; subst ha; simp; omega) (by omega) (by omega)).mono ?_
  rintro e w2 ⟨⟨x, rfl, hx⟩, hC2, hG2⟩
  have HC2 := hid hC2
  have HG2 := hid (HG1.out.trans hG2)
  have hx2 := hLm x hx
  clear hC2 hG2 hx
  go_wp2_with fail
  go_ret
  exact ⟨⟨x, rfl, hx2.1, hx2.2⟩, HC2.out.le (by omega), HG2.out⟩
end Go.Proofs.YtjlaidjogladaaaDoor
