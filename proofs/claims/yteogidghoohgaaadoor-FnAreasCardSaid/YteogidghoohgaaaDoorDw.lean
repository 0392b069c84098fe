/- The reference's draws of areas. -/
import Derived.Test.YteogidghoohgaaaDoorE6
import Derived.Test.YteogidghoohgaaaDoorAt
import Derived.Laws.IdiomStrings
import Derived.Deep.CutBlock
namespace Go.Proofs.YteogidghoohgaaaDoor
open Go.RowKit

attribute [local go_sem ↓] Go.wp_at_zero Go.wp_at_succ
theorem sl_litT (w : World) (l : List ByteArray) (cs : Array Value) (hcs : cs = (l.map Value.string).toArray) (t : TypeId) : Sl (w.alloc (.cells cs t)) 1 strRow (some ⟨w.heap.size, 0, none⟩) l := by
  refine Sl.of_blk (Blk.new w t cs) ?_
  subst hcs
  intro i hi _ j u hu
  have hj := (List.getElem?_eq_some_iff.1 hu).1
  simp [strRow] at hj
  subst hj
  simp [strRow] at hu
  simp [hi, hu]
set_option maxHeartbeats 1000000 in
theorem s_of (w0 : World) (g : Nat) (A : Option Addr) (c : Nat) (bs : List Int) (M : Int) (l : List ByteArray) (B : Option Addr) (d : Nat) (w : World) (hA : Code0 w0 A bs) (hC : CurU w0 w g A c bs M) (h1 : M ≤ 1099511627000) (hB : Sl w 1 strRow B l) (hne : ∀ a, B = some a → a.block ≠ g) (hl : 0 < l.length) (h2 : l.length ≤ 1048576) :
    Calls Tryd.prog 66 #[.pointer (some ⟨g, 0, none⟩), .slice B l.length d] w fun e w' => (∃ x, e = .returned (.string x) ∧ x ∈ l) ∧ CurU w0 w' g A c bs (M + 2) ∧ w.grownBy w' (some g) := by
  have HC := hid hC
  have HB := hid hB
  clear hC hB
  go_enter Tryd.func66, Tryd.ntmps66
  go_wp2_with fail
  refine (s_pick w0 g A c bs M l.length _ hA HC.out h1 (by omega)).mono ?_
  rintro e w1 ⟨⟨x, rfl, x0, x1⟩, hC1, hG1⟩
  obtain ⟨k, hk0⟩ : ∃ k : Nat, x = (k : Int) := ⟨x.toNat, by omega⟩
  subst hk0
  have hk : k < l.length := by omega
  obtain ⟨b, off, hBe, hb, hc⟩ := (sl_kept HB.out hG1 hne).at_ hk
  subst hBe
  have hc0 := tcells hc hk
  have HC1 := hid hC1
  have HG1 := hid hG1
  clear hC1 hG1 hc hne
  go_wp2_with fail
  go_ret
  exact ⟨⟨_, rfl, List.getElem_mem hk⟩, HC1.out, HG1.out⟩
/-- One of some texts that are written out. -/
theorem s_ofL (w0 : World) (g : Nat) (A : Option Addr) (c : Nat) (bs : List Int) (M : Int) (l : List ByteArray) (cs : Array Value) (hcs : cs = (l.map Value.string).toArray) (d b : Nat) (w : World) (hb : b = w.heap.size) (hA : Code0 w0 A bs) (hC : CurU w0 w g A c bs M) (h1 : M ≤ 1099511627000) (hl : 0 < l.length) (h2 : l.length ≤ 1048576) :
    Calls Tryd.prog 66 #[.pointer (some ⟨g, 0, none⟩), .slice (some ⟨b, 0, none⟩) l.length d] (w.alloc (.cells cs 9)) fun e w' => (∃ x, e = .returned (.string x) ∧ x ∈ l) ∧ CurU w0 w' g A c bs (M + 2) ∧ w.grownBy w' (some g) := by
  subst hb
  refine (s_of w0 g A c bs M l _ d _ hA (hC.grew' (by (repeat (first | with_reducible exact grew_refl _ | with_reducible assumption | with_reducible refine grew_split ?_ | with_reducible refine grew_mk ?_ | with_reducible refine grew_plus ?_ | with_reducible refine grew_alloc ?_ | with_reducible refine grew_drew ?_ | (with_reducible refine grew_set ?_ (by first | exact Nat.le_refl _ | omega | (simp [go_sem]; done) | (simp [go_sem]; omega))))))) h1 (sl_litT w l cs hcs _) (fun a ha => by injection ha with ha; subst ha; have := hC.lt; simp; omega) hl h2).mono ?_
  rintro e w' ⟨hx, hc, hg⟩
  exact ⟨hx, hc, (grown_of_grew (by (repeat (first | with_reducible exact grew_refl _ | with_reducible assumption | with_reducible refine grew_split ?_ | with_reducible refine grew_mk ?_ | with_reducible refine grew_plus ?_ | with_reducible refine grew_alloc ?_ | with_reducible refine grew_drew ?_ | (with_reducible refine grew_set ?_ (by first | exact Nat.le_refl _ | omega | (simp [go_sem]; done) | (simp [go_sem]; omega)))))) _).trans hg⟩
theorem AreaR.one2 (r : AreaR) : ∀ u ∈ r.row, u.oneCell' = true := by
  intro u hu
  simp [AreaR.row] at hu
  rcases hu with rfl | rfl | rfl | rfl | rfl | rfl <;> rfl
/-- What is known while a row is drawn: the row lies in its box b. -/
def ARow (w0 w : World) (g : Nat) (A : Option Addr) (c : Nat) (bs : List Int) (M : Int) (b : Nat) (wx : World) : Prop :=
  ∃ r : AreaR, Blk wx b 40 #[.string (r).nm, .int .i64 (r).cells, .int .i64 (r).cov, .int .i64 (r).least, .int .i64 (r).spread, .int .i64 (r).minutes] ∧ r.nm.size ≤ 20 ∧ CurU w0 wx g A c bs M ∧ w.grownBy wx (some g) ∧ Blk wx w.heap.size 40 #[.string ByteArray.empty, .int .i64 0, .int .i64 0, .int .i64 0, .int .i64 0, .int .i64 0]
set_option maxHeartbeats 4000000 in
set_option maxRecDepth 100000 in
theorem s_areaRow (w0 : World) (g : Nat) (A : Option Addr) (c : Nat) (bs : List Int) (M : Int) (nm : ByteArray) (w : World) (hA : Code0 w0 A bs) (hC : CurU w0 w g A c bs M) (h1 : M ≤ 1099511620000) (hn : nm.size ≤ 20) :
    Calls Tryd.prog 64 #[.pointer (some ⟨g, 0, none⟩), .string nm] w fun e w' => (∃ r : AreaR, e = .returned r.val ∧ r.nm.size ≤ 20) ∧ CurU w0 w' g A c bs (M + 40) ∧ w.grownBy w' (some g) := by
  have HC := hid hC
  have hgl := hC.lt
  have hgf := hC.far
  clear hC
  go_enter Tryd.func64, Tryd.ntmps64
  go_wp2_with fail
  refine (s_amongL w0 g A c bs M [1, 3, 100, 100, 9999] _ rfl _ _ _ (by simp) hA (HC.out.grew' (by (repeat (first | with_reducible exact grew_refl _ | with_reducible assumption | with_reducible refine grew_split ?_ | with_reducible refine grew_mk ?_ | with_reducible refine grew_plus ?_ | with_reducible refine grew_alloc ?_ | with_reducible refine grew_drew ?_ | (with_reducible refine grew_set ?_ (by first | exact Nat.le_refl _ | omega | (simp [go_sem]; done) | (simp [go_sem]; omega))))))) (by omega) (by decide) (by decide)).mono ?_
  rintro e w1 ⟨⟨x1, rfl, -⟩, hC1, hG1⟩
  have HC1 := hid hC1
  have HG1 := hid ((grown_of_grew (w := w) (by (repeat (first | with_reducible exact grew_refl _ | with_reducible assumption | with_reducible refine grew_split ?_ | with_reducible refine grew_mk ?_ | with_reducible refine grew_plus ?_ | with_reducible refine grew_alloc ?_ | with_reducible refine grew_drew ?_ | (with_reducible refine grew_set ?_ (by first | exact Nat.le_refl _ | omega | (simp [go_sem]; done) | (simp [go_sem]; omega)))))) (some g)).trans hG1)
  have HR1 := hid ((blk_new (w := w) rfl).grown hG1 (fun e => by injection e with e; omega))
  clear hC1 hG1
  go_wp2_with fail
  refine (s_amongL w0 g A c bs _ [0, 1, 240, 99999] _ rfl _ _ _ (by simp) hA HC1.out (by omega) (by decide) (by decide)).mono ?_
  rintro e w2 ⟨⟨x2, rfl, -⟩, hC2, hG2⟩
  have HC2 := hid hC2
  have HG2 := hid (HG1.out.trans hG2)
  have HR2 := hid (HR1.out.grown hG2 (fun e => by injection e with e; omega))
  clear hC2 hG2 HR1 HG1 HC1
  go_upto_region 2 with fail
  generalize hb5 : w2.heap.size = b5
  have hsz2 := HG2.out.size
  refine opq_wp (fun wx => ARow w0 w g A c bs (M + 4) b5 wx) ⟨⟨nm, x1, 0, 0, 0, x2⟩, blk_new hb5.symm, hn, (HC2.out.grew' (by (repeat (first | with_reducible exact grew_refl _ | with_reducible assumption | with_reducible refine grew_split ?_ | with_reducible refine grew_mk ?_ | with_reducible refine grew_plus ?_ | with_reducible refine grew_alloc ?_ | with_reducible refine grew_drew ?_ | (with_reducible refine grew_set ?_ (by first | exact Nat.le_refl _ | omega | (simp [go_sem]; done) | (simp [go_sem]; omega))))))).le (by omega), HG2.out.trans (grown_of_grew (by (repeat (first | with_reducible exact grew_refl _ | with_reducible assumption | with_reducible refine grew_split ?_ | with_reducible refine grew_mk ?_ | with_reducible refine grew_plus ?_ | with_reducible refine grew_alloc ?_ | with_reducible refine grew_drew ?_ | (with_reducible refine grew_set ?_ (by first | exact Nat.le_refl _ | omega | (simp [go_sem]; done) | (simp [go_sem]; omega)))))) _), HR2.out.alloc _⟩ ?_
  have hb5w : w.heap.size + 1 ≤ b5 := by rw [← hb5]; have h := HR2.out.lt; omega
  clear HC2 HG2 HR2 hb5 hsz2
  rintro wq ⟨r, hB, hn, hC, hG, hR⟩
  (have HB0 := hid hB; have HC0 := hid hC; have HG0 := hid hG; have HR0 := hid hR; have hbl := hB.lt; have hrl := hR.lt; have hgl2 := hC.lt; (have hc0 := hB.cell 0; have hc1 := hB.cell 1; have hc2 := hB.cell 2; have hc3 := hB.cell 3; have hc4 := hB.cell 4; have hc5 := hB.cell 5; simp [go_sem] at hc0 hc1 hc2 hc3 hc4 hc5); (have fc0 := hB.frozen 0; have fc1 := hB.frozen 1; have fc2 := hB.frozen 2; have fc3 := hB.frozen 3; have fc4 := hB.frozen 4; have fc5 := hB.frozen 5); clear hB hC hG hR)
  go_wp2_with fail
  (refine (s_amongL w0 g A c bs _ [0, 1, _, r.cells, r.cells] _ rfl _ _ _ (by simp) hA (HC0.out.grew' (by (repeat (first | with_reducible exact grew_refl _ | with_reducible assumption | with_reducible refine grew_split ?_ | with_reducible refine grew_mk ?_ | with_reducible refine grew_plus ?_ | with_reducible refine grew_alloc ?_ | with_reducible refine grew_drew ?_ | (with_reducible refine grew_set ?_ (by first | exact Nat.le_refl _ | omega | (simp [go_sem]; done) | (simp [go_sem]; omega))))))) (by omega) (by simp) (by simp)).mono ?_; rintro e w1 ⟨⟨x1, rfl, -⟩, hC1, hG1⟩; have HC1 := hid hC1; have HB1 := hid (HB0.out.grown hG1 (fun e => by injection e with e; omega)); have HR1 := hid (HR0.out.grown hG1 (fun e => by injection e with e; omega)); have HG1 := hid (HG0.out.trans hG1); clear hC1 hG1 hc0 hc1 hc2 hc3 hc4 hc5 fc0 fc1 fc2 fc3 fc4 fc5; (have hc0 := HB1.out.cell 0; have hc1 := HB1.out.cell 1; have hc2 := HB1.out.cell 2; have hc3 := HB1.out.cell 3; have hc4 := HB1.out.cell 4; have hc5 := HB1.out.cell 5; simp [go_sem] at hc0 hc1 hc2 hc3 hc4 hc5); (have fc0 := HB1.out.frozen 0; have fc1 := HB1.out.frozen 1; have fc2 := HB1.out.frozen 2; have fc3 := HB1.out.frozen 3; have fc4 := HB1.out.frozen 4; have fc5 := HB1.out.frozen 5); have hbl1 := HB1.out.lt)
  go_upto_region 3 with fail
  refine opq_wp (fun wx => ARow w0 w g A c bs (M + 8) b5 wx) ⟨⟨r.nm, r.cells, x1, r.least, r.spread, r.minutes⟩, HB1.out.set_ 2 _, hn, (HC1.out.kept (grown_set (g := b5) (grown_refl _ _)) (fun k hk => by injection hk with hk; omega)).le (by omega), grown_join HG1.out (grown_set (g := b5) (grown_refl _ _)) (fun k hk => by injection hk with hk; omega), HR1.out.far (by simp; omega) _⟩ ?_
  clear hc0 hc1 hc2 hc3 hc4 hc5 fc0 fc1 fc2 fc3 fc4 fc5
  rintro wq2 ⟨r, hB, hn, hC, hG, hR⟩
  (have HB2 := hid hB; have HC2 := hid hC; have HG2 := hid hG; have HR2 := hid hR; have hbl := hB.lt; have hrl := hR.lt; have hgl2 := hC.lt; (have hc0 := hB.cell 0; have hc1 := hB.cell 1; have hc2 := hB.cell 2; have hc3 := hB.cell 3; have hc4 := hB.cell 4; have hc5 := hB.cell 5; simp [go_sem] at hc0 hc1 hc2 hc3 hc4 hc5); (have fc0 := hB.frozen 0; have fc1 := hB.frozen 1; have fc2 := hB.frozen 2; have fc3 := hB.frozen 3; have fc4 := hB.frozen 4; have fc5 := hB.frozen 5); clear hB hC hG hR)
  go_upto_if 27 with fail
  go_cut [5] (fun p wx => p = .pointer (some ⟨b5, 0, none⟩) ∧ ARow w0 w g A c bs (M + 16) b5 wx)
  case first =>
    by_cases hcv : r.cov > 0
    · go_wp2_with fail
      (refine (s_amongL w0 g A c bs _ [-1000, -40, 0, 250, 260, 20000] _ rfl _ _ _ (by simp) hA (HC2.out.grew' (by (repeat (first | with_reducible exact grew_refl _ | with_reducible assumption | with_reducible refine grew_split ?_ | with_reducible refine grew_mk ?_ | with_reducible refine grew_plus ?_ | with_reducible refine grew_alloc ?_ | with_reducible refine grew_drew ?_ | (with_reducible refine grew_set ?_ (by first | exact Nat.le_refl _ | omega | (simp [go_sem]; done) | (simp [go_sem]; omega))))))) (by omega) (by simp) (by simp)).mono ?_; rintro e w3 ⟨⟨x3, rfl, -⟩, hC3, hG3⟩; have HC3 := hid hC3; have HB3 := hid (HB2.out.grown hG3 (fun e => by injection e with e; omega)); have HR3 := hid (HR2.out.grown hG3 (fun e => by injection e with e; omega)); have HG3 := hid (HG2.out.trans hG3); clear hC3 hG3 hc0 hc1 hc2 hc3 hc4 hc5 fc0 fc1 fc2 fc3 fc4 fc5; (have hc0 := HB3.out.cell 0; have hc1 := HB3.out.cell 1; have hc2 := HB3.out.cell 2; have hc3 := HB3.out.cell 3; have hc4 := HB3.out.cell 4; have hc5 := HB3.out.cell 5; simp [go_sem] at hc0 hc1 hc2 hc3 hc4 hc5); (have fc0 := HB3.out.frozen 0; have fc1 := HB3.out.frozen 1; have fc2 := HB3.out.frozen 2; have fc3 := HB3.out.frozen 3; have fc4 := HB3.out.frozen 4; have fc5 := HB3.out.frozen 5); have hbl3 := HB3.out.lt)
      go_upto_region 5 with fail
      refine opq_wp (fun wx => ARow w0 w g A c bs (M + 12) b5 wx) ⟨⟨r.nm, r.cells, r.cov, x3, r.spread, r.minutes⟩, HB3.out.set_ 3 _, hn, (HC3.out.kept (grown_set (g := b5) (grown_refl _ _)) (fun k hk => by injection hk with hk; omega)).le (by omega), grown_join HG3.out (grown_set (g := b5) (grown_refl _ _)) (fun k hk => by injection hk with hk; omega), HR3.out.far (by simp; omega) _⟩ ?_
      clear hc0 hc1 hc2 hc3 hc4 hc5 fc0 fc1 fc2 fc3 fc4 fc5
      rintro wq3 ⟨r, hB, hn, hC, hG, hR⟩
      (have HB4 := hid hB; have HC4 := hid hC; have HG4 := hid hG; have HR4 := hid hR; have hbl := hB.lt; have hrl := hR.lt; have hgl2 := hC.lt; (have hc0 := hB.cell 0; have hc1 := hB.cell 1; have hc2 := hB.cell 2; have hc3 := hB.cell 3; have hc4 := hB.cell 4; have hc5 := hB.cell 5; simp [go_sem] at hc0 hc1 hc2 hc3 hc4 hc5); (have fc0 := hB.frozen 0; have fc1 := hB.frozen 1; have fc2 := hB.frozen 2; have fc3 := hB.frozen 3; have fc4 := hB.frozen 4; have fc5 := hB.frozen 5); clear hB hC hG hR)
      go_wp2_with fail
      (refine (s_amongL w0 g A c bs _ [0, 10, 50, 51, 999] _ rfl _ _ _ (by simp) hA (HC4.out.grew' (by (repeat (first | with_reducible exact grew_refl _ | with_reducible assumption | with_reducible refine grew_split ?_ | with_reducible refine grew_mk ?_ | with_reducible refine grew_plus ?_ | with_reducible refine grew_alloc ?_ | with_reducible refine grew_drew ?_ | (with_reducible refine grew_set ?_ (by first | exact Nat.le_refl _ | omega | (simp [go_sem]; done) | (simp [go_sem]; omega))))))) (by omega) (by simp) (by simp)).mono ?_; rintro e w5 ⟨⟨x5, rfl, -⟩, hC5, hG5⟩; have HC5 := hid hC5; have HB5 := hid (HB4.out.grown hG5 (fun e => by injection e with e; omega)); have HR5 := hid (HR4.out.grown hG5 (fun e => by injection e with e; omega)); have HG5 := hid (HG4.out.trans hG5); clear hC5 hG5 hc0 hc1 hc2 hc3 hc4 hc5 fc0 fc1 fc2 fc3 fc4 fc5; (have hc0 := HB5.out.cell 0; have hc1 := HB5.out.cell 1; have hc2 := HB5.out.cell 2; have hc3 := HB5.out.cell 3; have hc4 := HB5.out.cell 4; have hc5 := HB5.out.cell 5; simp [go_sem] at hc0 hc1 hc2 hc3 hc4 hc5); (have fc0 := HB5.out.frozen 0; have fc1 := HB5.out.frozen 1; have fc2 := HB5.out.frozen 2; have fc3 := HB5.out.frozen 3; have fc4 := HB5.out.frozen 4; have fc5 := HB5.out.frozen 5); have hbl5 := HB5.out.lt)
      go_wp2_with fail
      go_meet
      exact ⟨rfl, ⟨r.nm, r.cells, r.cov, r.least, x5, r.minutes⟩, HB5.out.set_ 4 _, hn, (HC5.out.kept (grown_set (g := b5) (grown_refl _ _)) (fun k hk => by injection hk with hk; omega)).le (by omega), grown_join HG5.out (grown_set (g := b5) (grown_refl _ _)) (fun k hk => by injection hk with hk; omega), HR5.out.far (by simp; omega) _⟩
    · go_wp2_with fail
      go_meet
      exact ⟨rfl, r, HB2.out, hn, HC2.out.le (by omega), HG2.out, HR2.out⟩
  case rest =>
    obtain ⟨rfl, r, hB, hn, hC, hG, hR⟩ := hcut
    clear hc0 hc1 hc2 hc3 hc4 hc5 fc0 fc1 fc2 fc3 fc4 fc5
    (have HB4 := hid hB; have HC4 := hid hC; have HG4 := hid hG; have HR4 := hid hR; have hbl := hB.lt; have hrl := hR.lt; have hgl2 := hC.lt; (have hc0 := hB.cell 0; have hc1 := hB.cell 1; have hc2 := hB.cell 2; have hc3 := hB.cell 3; have hc4 := hB.cell 4; have hc5 := hB.cell 5; simp [go_sem] at hc0 hc1 hc2 hc3 hc4 hc5); (have fc0 := hB.frozen 0; have fc1 := hB.frozen 1; have fc2 := hB.frozen 2; have fc3 := hB.frozen 3; have fc4 := hB.frozen 4; have fc5 := hB.frozen 5); clear hB hC hG hR)
    go_wp2_with fail
    refine (s_pick w0 g A c bs _ 80 _ hA HC4.out (by omega) (by omega)).mono ?_
    rintro e w5 ⟨⟨n, rfl, n0, n1⟩, hC5, hG5⟩
    have hC := hC5
    have hB := HB4.out.grown hG5 (fun e => by injection e with e; omega)
    have hR := HR4.out.grown hG5 (fun e => by injection e with e; omega)
    have hG := HG4.out.trans hG5
    clear hc0 hc1 hc2 hc3 hc4 hc5 fc0 fc1 fc2 fc3 fc4 fc5
    clear hC5 hG5
    (have HB5 := hid hB; have HC5 := hid hC; have HG5 := hid hG; have HR5 := hid hR; have hbl := hB.lt; have hrl := hR.lt; have hgl2 := hC.lt; (have hc0 := hB.cell 0; have hc1 := hB.cell 1; have hc2 := hB.cell 2; have hc3 := hB.cell 3; have hc4 := hB.cell 4; have hc5 := hB.cell 5; simp [go_sem] at hc0 hc1 hc2 hc3 hc4 hc5); (have fc0 := hB.frozen 0; have fc1 := hB.frozen 1; have fc2 := hB.frozen 2; have fc3 := hB.frozen 3; have fc4 := hB.frozen 4; have fc5 := hB.frozen 5); clear hB hC hG hR)
    go_upto_block 0 with fail
    go_cut [5] (fun p wx => p = .pointer (some ⟨b5, 0, none⟩) ∧ ARow w0 w g A c bs (M + 30) b5 wx)
    case first =>
      rcases (show n = 0 ∨ n = 1 ∨ n = 2 ∨ n = 3 ∨ n = 4 ∨ n = 5 ∨ 5 < n by omega) with rfl | rfl | rfl | rfl | rfl | rfl | hn5
      · go_wp2_with fail
        refine (s_ofL w0 g A c bs _ [_, _, _] _ rfl _ _ _ (by simp) hA (HC5.out.grew' (by (repeat (first | with_reducible exact grew_refl _ | with_reducible assumption | with_reducible refine grew_split ?_ | with_reducible refine grew_mk ?_ | with_reducible refine grew_plus ?_ | with_reducible refine grew_alloc ?_ | with_reducible refine grew_drew ?_ | (with_reducible refine grew_set ?_ (by first | exact Nat.le_refl _ | omega | (simp [go_sem]; done) | (simp [go_sem]; omega))))))) (by omega) (by simp) (by simp)).mono ?_
        rintro e w6 ⟨⟨x6, rfl, hx6⟩, hC6, hG6⟩
        have hx20 : x6.size ≤ 20 := by simp at hx6; rcases hx6 with rfl | rfl | rfl <;> decide
        have HC6 := hid hC6
        have HB6 := hid (HB5.out.grown hG6 (fun e => by injection e with e; omega))
        have HR6 := hid (HR5.out.grown hG6 (fun e => by injection e with e; omega))
        have HG6 := hid (HG5.out.trans hG6)
        clear hC6 hG6 hx6 hc0 hc1 hc2 hc3 hc4 hc5 fc0 fc1 fc2 fc3 fc4 fc5
        (have hc0 := HB6.out.cell 0; have hc1 := HB6.out.cell 1; have hc2 := HB6.out.cell 2; have hc3 := HB6.out.cell 3; have hc4 := HB6.out.cell 4; have hc5 := HB6.out.cell 5; simp [go_sem] at hc0 hc1 hc2 hc3 hc4 hc5)
        (have fc0 := HB6.out.frozen 0; have fc1 := HB6.out.frozen 1; have fc2 := HB6.out.frozen 2; have fc3 := HB6.out.frozen 3; have fc4 := HB6.out.frozen 4; have fc5 := HB6.out.frozen 5)
        have hbl6 := HB6.out.lt
        go_wp2_with fail
        go_meet
        exact ⟨rfl, ⟨x6, r.cells, r.cov, r.least, r.spread, r.minutes⟩, HB6.out.set_ 0 _, hx20, (HC6.out.kept (grown_set (g := b5) (grown_refl _ _)) (fun k hk => by injection hk with hk; omega)).le (by omega), grown_join HG6.out (grown_set (g := b5) (grown_refl _ _)) (fun k hk => by injection hk with hk; omega), HR6.out.far (by simp; omega) _⟩
      · go_wp2_with fail
        (refine (s_amongL w0 g A c bs _ [0, 10000] _ rfl _ _ _ (by simp) hA (HC5.out.grew' (by (repeat (first | with_reducible exact grew_refl _ | with_reducible assumption | with_reducible refine grew_split ?_ | with_reducible refine grew_mk ?_ | with_reducible refine grew_plus ?_ | with_reducible refine grew_alloc ?_ | with_reducible refine grew_drew ?_ | (with_reducible refine grew_set ?_ (by first | exact Nat.le_refl _ | omega | (simp [go_sem]; done) | (simp [go_sem]; omega))))))) (by omega) (by simp) (by simp)).mono ?_; rintro e w6 ⟨⟨x6, rfl, -⟩, hC6, hG6⟩; have HC6 := hid hC6; have HB6 := hid (HB5.out.grown hG6 (fun e => by injection e with e; omega)); have HR6 := hid (HR5.out.grown hG6 (fun e => by injection e with e; omega)); have HG6 := hid (HG5.out.trans hG6); clear hC6 hG6 hc0 hc1 hc2 hc3 hc4 hc5 fc0 fc1 fc2 fc3 fc4 fc5; (have hc0 := HB6.out.cell 0; have hc1 := HB6.out.cell 1; have hc2 := HB6.out.cell 2; have hc3 := HB6.out.cell 3; have hc4 := HB6.out.cell 4; have hc5 := HB6.out.cell 5; simp [go_sem] at hc0 hc1 hc2 hc3 hc4 hc5); (have fc0 := HB6.out.frozen 0; have fc1 := HB6.out.frozen 1; have fc2 := HB6.out.frozen 2; have fc3 := HB6.out.frozen 3; have fc4 := HB6.out.frozen 4; have fc5 := HB6.out.frozen 5); have hbl6 := HB6.out.lt)
        go_wp2_with fail
        go_meet
        exact ⟨rfl, ⟨r.nm, x6, r.cov, r.least, r.spread, r.minutes⟩, HB6.out.set_ 1 _, hn, (HC6.out.kept (grown_set (g := b5) (grown_refl _ _)) (fun k hk => by injection hk with hk; omega)).le (by omega), grown_join HG6.out (grown_set (g := b5) (grown_refl _ _)) (fun k hk => by injection hk with hk; omega), HR6.out.far (by simp; omega) _⟩
      · go_wp2_with fail
        (refine (s_amongL w0 g A c bs _ [-1, _, 0] _ rfl _ _ _ (by simp) hA (HC5.out.grew' (by (repeat (first | with_reducible exact grew_refl _ | with_reducible assumption | with_reducible refine grew_split ?_ | with_reducible refine grew_mk ?_ | with_reducible refine grew_plus ?_ | with_reducible refine grew_alloc ?_ | with_reducible refine grew_drew ?_ | (with_reducible refine grew_set ?_ (by first | exact Nat.le_refl _ | omega | (simp [go_sem]; done) | (simp [go_sem]; omega))))))) (by omega) (by simp) (by simp)).mono ?_; rintro e w6 ⟨⟨x6, rfl, -⟩, hC6, hG6⟩; have HC6 := hid hC6; have HB6 := hid (HB5.out.grown hG6 (fun e => by injection e with e; omega)); have HR6 := hid (HR5.out.grown hG6 (fun e => by injection e with e; omega)); have HG6 := hid (HG5.out.trans hG6); clear hC6 hG6 hc0 hc1 hc2 hc3 hc4 hc5 fc0 fc1 fc2 fc3 fc4 fc5; (have hc0 := HB6.out.cell 0; have hc1 := HB6.out.cell 1; have hc2 := HB6.out.cell 2; have hc3 := HB6.out.cell 3; have hc4 := HB6.out.cell 4; have hc5 := HB6.out.cell 5; simp [go_sem] at hc0 hc1 hc2 hc3 hc4 hc5); (have fc0 := HB6.out.frozen 0; have fc1 := HB6.out.frozen 1; have fc2 := HB6.out.frozen 2; have fc3 := HB6.out.frozen 3; have fc4 := HB6.out.frozen 4; have fc5 := HB6.out.frozen 5); have hbl6 := HB6.out.lt)
        go_wp2_with fail
        go_meet
        exact ⟨rfl, ⟨r.nm, r.cells, x6, r.least, r.spread, r.minutes⟩, HB6.out.set_ 2 _, hn, (HC6.out.kept (grown_set (g := b5) (grown_refl _ _)) (fun k hk => by injection hk with hk; omega)).le (by omega), grown_join HG6.out (grown_set (g := b5) (grown_refl _ _)) (fun k hk => by injection hk with hk; omega), HR6.out.far (by simp; omega) _⟩
      · go_wp2_with fail
        (refine (s_amongL w0 g A c bs _ [-1001, 20001] _ rfl _ _ _ (by simp) hA (HC5.out.grew' (by (repeat (first | with_reducible exact grew_refl _ | with_reducible assumption | with_reducible refine grew_split ?_ | with_reducible refine grew_mk ?_ | with_reducible refine grew_plus ?_ | with_reducible refine grew_alloc ?_ | with_reducible refine grew_drew ?_ | (with_reducible refine grew_set ?_ (by first | exact Nat.le_refl _ | omega | (simp [go_sem]; done) | (simp [go_sem]; omega))))))) (by omega) (by simp) (by simp)).mono ?_; rintro e w6 ⟨⟨x6, rfl, -⟩, hC6, hG6⟩; have HC6 := hid hC6; have HB6 := hid (HB5.out.grown hG6 (fun e => by injection e with e; omega)); have HR6 := hid (HR5.out.grown hG6 (fun e => by injection e with e; omega)); have HG6 := hid (HG5.out.trans hG6); clear hC6 hG6 hc0 hc1 hc2 hc3 hc4 hc5 fc0 fc1 fc2 fc3 fc4 fc5; (have hc0 := HB6.out.cell 0; have hc1 := HB6.out.cell 1; have hc2 := HB6.out.cell 2; have hc3 := HB6.out.cell 3; have hc4 := HB6.out.cell 4; have hc5 := HB6.out.cell 5; simp [go_sem] at hc0 hc1 hc2 hc3 hc4 hc5); (have fc0 := HB6.out.frozen 0; have fc1 := HB6.out.frozen 1; have fc2 := HB6.out.frozen 2; have fc3 := HB6.out.frozen 3; have fc4 := HB6.out.frozen 4; have fc5 := HB6.out.frozen 5); have hbl6 := HB6.out.lt)
        go_wp2_with fail
        go_meet
        exact ⟨rfl, ⟨r.nm, r.cells, r.cov, x6, r.spread, r.minutes⟩, HB6.out.set_ 3 _, hn, (HC6.out.kept (grown_set (g := b5) (grown_refl _ _)) (fun k hk => by injection hk with hk; omega)).le (by omega), grown_join HG6.out (grown_set (g := b5) (grown_refl _ _)) (fun k hk => by injection hk with hk; omega), HR6.out.far (by simp; omega) _⟩
      · go_wp2_with fail
        (refine (s_amongL w0 g A c bs _ [-1, 1000] _ rfl _ _ _ (by simp) hA (HC5.out.grew' (by (repeat (first | with_reducible exact grew_refl _ | with_reducible assumption | with_reducible refine grew_split ?_ | with_reducible refine grew_mk ?_ | with_reducible refine grew_plus ?_ | with_reducible refine grew_alloc ?_ | with_reducible refine grew_drew ?_ | (with_reducible refine grew_set ?_ (by first | exact Nat.le_refl _ | omega | (simp [go_sem]; done) | (simp [go_sem]; omega))))))) (by omega) (by simp) (by simp)).mono ?_; rintro e w6 ⟨⟨x6, rfl, -⟩, hC6, hG6⟩; have HC6 := hid hC6; have HB6 := hid (HB5.out.grown hG6 (fun e => by injection e with e; omega)); have HR6 := hid (HR5.out.grown hG6 (fun e => by injection e with e; omega)); have HG6 := hid (HG5.out.trans hG6); clear hC6 hG6 hc0 hc1 hc2 hc3 hc4 hc5 fc0 fc1 fc2 fc3 fc4 fc5; (have hc0 := HB6.out.cell 0; have hc1 := HB6.out.cell 1; have hc2 := HB6.out.cell 2; have hc3 := HB6.out.cell 3; have hc4 := HB6.out.cell 4; have hc5 := HB6.out.cell 5; simp [go_sem] at hc0 hc1 hc2 hc3 hc4 hc5); (have fc0 := HB6.out.frozen 0; have fc1 := HB6.out.frozen 1; have fc2 := HB6.out.frozen 2; have fc3 := HB6.out.frozen 3; have fc4 := HB6.out.frozen 4; have fc5 := HB6.out.frozen 5); have hbl6 := HB6.out.lt)
        go_wp2_with fail
        go_meet
        exact ⟨rfl, ⟨r.nm, r.cells, r.cov, r.least, x6, r.minutes⟩, HB6.out.set_ 4 _, hn, (HC6.out.kept (grown_set (g := b5) (grown_refl _ _)) (fun k hk => by injection hk with hk; omega)).le (by omega), grown_join HG6.out (grown_set (g := b5) (grown_refl _ _)) (fun k hk => by injection hk with hk; omega), HR6.out.far (by simp; omega) _⟩
      · go_wp2_with fail
        (refine (s_amongL w0 g A c bs _ [-1, 100000] _ rfl _ _ _ (by simp) hA (HC5.out.grew' (by (repeat (first | with_reducible exact grew_refl _ | with_reducible assumption | with_reducible refine grew_split ?_ | with_reducible refine grew_mk ?_ | with_reducible refine grew_plus ?_ | with_reducible refine grew_alloc ?_ | with_reducible refine grew_drew ?_ | (with_reducible refine grew_set ?_ (by first | exact Nat.le_refl _ | omega | (simp [go_sem]; done) | (simp [go_sem]; omega))))))) (by omega) (by simp) (by simp)).mono ?_; rintro e w6 ⟨⟨x6, rfl, -⟩, hC6, hG6⟩; have HC6 := hid hC6; have HB6 := hid (HB5.out.grown hG6 (fun e => by injection e with e; omega)); have HR6 := hid (HR5.out.grown hG6 (fun e => by injection e with e; omega)); have HG6 := hid (HG5.out.trans hG6); clear hC6 hG6 hc0 hc1 hc2 hc3 hc4 hc5 fc0 fc1 fc2 fc3 fc4 fc5; (have hc0 := HB6.out.cell 0; have hc1 := HB6.out.cell 1; have hc2 := HB6.out.cell 2; have hc3 := HB6.out.cell 3; have hc4 := HB6.out.cell 4; have hc5 := HB6.out.cell 5; simp [go_sem] at hc0 hc1 hc2 hc3 hc4 hc5); (have fc0 := HB6.out.frozen 0; have fc1 := HB6.out.frozen 1; have fc2 := HB6.out.frozen 2; have fc3 := HB6.out.frozen 3; have fc4 := HB6.out.frozen 4; have fc5 := HB6.out.frozen 5); have hbl6 := HB6.out.lt)
        go_wp2_with fail
        go_meet
        exact ⟨rfl, ⟨r.nm, r.cells, r.cov, r.least, r.spread, x6⟩, HB6.out.set_ 5 _, hn, (HC6.out.kept (grown_set (g := b5) (grown_refl _ _)) (fun k hk => by injection hk with hk; omega)).le (by omega), grown_join HG6.out (grown_set (g := b5) (grown_refl _ _)) (fun k hk => by injection hk with hk; omega), HR6.out.far (by simp; omega) _⟩
      · have e0 : (n == 0) = false := by simp; omega
        have e1 : (n == 1) = false := by simp; omega
        have e2 : (n == 2) = false := by simp; omega
        have e3 : (n == 3) = false := by simp; omega
        have e4 : (n == 4) = false := by simp; omega
        have e5 : (n == 5) = false := by simp; omega
        go_wp2_with fail
        go_meet
        exact ⟨rfl, r, HB5.out, hn, HC5.out.le (by omega), HG5.out, HR5.out⟩
    case rest =>
      obtain ⟨rfl, r, hB, hn, hC, hG, hR⟩ := hcut
      clear hc0 hc1 hc2 hc3 hc4 hc5 fc0 fc1 fc2 fc3 fc4 fc5
      (have HB6 := hid hB; have HC6 := hid hC; have HG6 := hid hG; have HR6 := hid hR; have hbl := hB.lt; have hrl := hR.lt; have hgl2 := hC.lt; (have hc0 := hB.cell 0; have hc1 := hB.cell 1; have hc2 := hB.cell 2; have hc3 := hB.cell 3; have hc4 := hB.cell 4; have hc5 := hB.cell 5; simp [go_sem] at hc0 hc1 hc2 hc3 hc4 hc5); (have fc0 := hB.frozen 0; have fc1 := hB.frozen 1; have fc2 := hB.frozen 2; have fc3 := hB.frozen 3; have fc4 := hB.frozen 4; have fc5 := hB.frozen 5); clear hB hC hG hR)
      (have hd0 := HR6.out.cell 0; have hd1 := HR6.out.cell 1; have hd2 := HR6.out.cell 2; have hd3 := HR6.out.cell 3; have hd4 := HR6.out.cell 4; have hd5 := HR6.out.cell 5; simp [go_sem] at hd0 hd1 hd2 hd3 hd4 hd5)
      (have fd0 := HR6.out.frozen 0; have fd1 := HR6.out.frozen 1; have fd2 := HR6.out.frozen 2; have fd3 := HR6.out.frozen 3; have fd4 := HR6.out.frozen 4; have fd5 := HR6.out.frozen 5)
      go_wp2_with fail
      refine bodyPost_ret (v := r.val) (by simp [results, Tryd.results64, go_sem, *]) rfl ?_
      exact ⟨⟨r, rfl, hn⟩, (HC6.out.kept (grown_set (g := w.heap.size) (grown_set (grown_set (grown_set (grown_set (grown_set (grown_refl _ _)))))) ) (fun k hk => by injection hk with hk; omega)).le (by omega), grown_join HG6.out (grown_set (g := w.heap.size) (grown_set (grown_set (grown_set (grown_set (grown_set (grown_refl _ _))))))) (fun k hk => by injection hk with hk; omega)⟩
theorem back_b (W : World) (v : Nat) (hv : v < 256) (x : Int) (hx : x = (v : Int)) : (convert 30 9 (.slice (some ⟨W.heap.size, 0, none⟩) 1 1)).run Tryd.prog (W.alloc (.cells #[.int .u8 x] 5)) = .ok (.string ⟨#[UInt8.ofNat v]⟩) (W.alloc (.cells #[.int .u8 x] 5)) := by
  refine run_convert_bytes_back _ _ _ _ ⟨W.heap.size, 0, none⟩ 1 [UInt8.ofNat v] Tryd.underlying30 Tryd.underlying5 Tryd.underlying9 (fun j hj => ?_)
  have hj0 : j = 0 := by simpa using hj
  subst hj0
  subst hx
  have h := (Blk.new W 5 #[.int .u8 (v : Int)]).cell 0
  have e : (UInt8.ofNat v).toNat = v := by rw [UInt8.toNat_ofNat']; omega
  simp only [List.getElem_cons_zero, e]
  simp [Addr.add]
/-- What is known while rows are drawn. -/
def ARows (w0 w : World) (g : Nat) (A : Option Addr) (c : Nat) (bs : List Int) (M : Int) (o : Value) (n : Nat) (wx : World) : Prop :=
  ∃ (B : Option Addr) (d : Nat) (L : List AreaR), o = .slice B L.length d ∧ L.length ≤ n ∧ (∀ r ∈ L, r.nm.size ≤ 20) ∧ Own w.heap.size 40 6 AreaR.row wx B d L ∧ CurU w0 wx g A c bs M ∧ w.grownBy wx (some g)
theorem small_snoc {L : List AreaR} {r : AreaR} (h : ∀ r ∈ L, r.nm.size ≤ 20) (hr : r.nm.size ≤ 20) : ∀ x ∈ L ++ [r], x.nm.size ≤ 20 := by
  intro x hx
  rcases List.mem_append.1 hx with hx | hx
  · exact h x hx
  · simp at hx; subst hx; exact hr
set_option maxHeartbeats 4000000 in
set_option maxRecDepth 100000 in
theorem s_areaRows (w0 : World) (g : Nat) (A : Option Addr) (c : Nat) (bs : List Int) (M : Int) (w : World) (hA : Code0 w0 A bs) (hC : CurU w0 w g A c bs M) (h1 : M ≤ 1099511600000) :
    Calls Tryd.prog 47 #[.pointer (some ⟨g, 0, none⟩)] w fun e w' => (∃ (B : Option Addr) (d : Nat) (L : List AreaR), e = .returned (.slice B L.length d) ∧ OwnF w.heap.size 40 6 AreaR.row w' B L ∧ L.length ≤ 12 ∧ ∀ r ∈ L, r.nm.size ≤ 20) ∧ CurU w0 w' g A c bs (M + 600) ∧ w.grownBy w' (some g) := by
  have HC := hid hC
  have hgl := hC.lt
  have hgf := hC.far
  clear hC
  go_enter Tryd.func47, Tryd.ntmps47
  go_wp2_with fail
  go_loopw [3, 5] (fun o i wr => ∃ (k : Nat), k ≤ 6 ∧ i = .int .i64 k ∧ ARows w0 w g A c bs (M + 50 * (k : Int)) o k wr ∧ Blk wr (w.heap.size + 1) 9 #[.string ⟨#[98, 97, 110, 107]⟩, .string ⟨#[98, 97, 121]⟩, .string ⟨#[99, 104, 97, 110, 110, 101, 108]⟩, .string ⟨#[104, 97, 114, 98, 111, 117, 114]⟩, .string ⟨#[114, 101, 101, 102]⟩, .string ⟨#[115, 111, 117, 110, 100]⟩]) (fun _ i _ => 6 - (intOf i).toNat)
  case atStart => exact ⟨0, by omega, rfl, ⟨_, _, [], rfl, by simp, by simp, Own.newIn (o := .cells #[] 40) (by (repeat (first | with_reducible exact grew_refl _ | with_reducible assumption | with_reducible refine grew_split ?_ | with_reducible refine grew_mk ?_ | with_reducible refine grew_plus ?_ | with_reducible refine grew_alloc ?_ | with_reducible refine grew_drew ?_ | (with_reducible refine grew_set ?_ (by first | exact Nat.le_refl _ | omega | (simp [go_sem]; done) | (simp [go_sem]; omega)))))) rfl rfl (Nat.le_refl _), (HC.out.grew' (by (repeat (first | with_reducible exact grew_refl _ | with_reducible assumption | with_reducible refine grew_split ?_ | with_reducible refine grew_mk ?_ | with_reducible refine grew_plus ?_ | with_reducible refine grew_alloc ?_ | with_reducible refine grew_drew ?_ | (with_reducible refine grew_set ?_ (by first | exact Nat.le_refl _ | omega | (simp [go_sem]; done) | (simp [go_sem]; omega))))))).le (by omega), grown_of_grew (by (repeat (first | with_reducible exact grew_refl _ | with_reducible assumption | with_reducible refine grew_split ?_ | with_reducible refine grew_mk ?_ | with_reducible refine grew_plus ?_ | with_reducible refine grew_alloc ?_ | with_reducible refine grew_drew ?_ | (with_reducible refine grew_set ?_ (by first | exact Nat.le_refl _ | omega | (simp [go_sem]; done) | (simp [go_sem]; omega)))))) _⟩, blk_new (by simp)⟩
  case round =>
    obtain ⟨k, hk, rfl, ⟨B, d, L, rfl, hL, hs, hO, hC, hG⟩, hN⟩ := hrel
    have HS := hid hs
    have HO0 := hid hO
    have HC0 := hid hC
    have HG0 := hid hG
    have HN0 := hid hN
    clear hs hO hC hG hN
    by_cases hlt : k < 6
    · have hk0 : (0 : Int) ≤ (k : Int) := by omega
      have hk6 : (k : Int) < 6 := by omega
      go_wp2_with fail
      refine (s_one w0 g A c bs _ 2 _ hA HC0.out (by omega) (by omega)).mono ?_
      rintro e w1 ⟨⟨b, rfl⟩, hC1, hG1⟩
      have HC1 := hid hC1
      have HO1 := hid (HO0.out.keptG hG1 hgl)
      have HN1 := hid (HN0.out.grown hG1 (fun e => by injection e with e; omega))
      have HG1 := hid (HG0.out.trans hG1)
      clear hC1 hG1
      cases b
      · go_wp2_with fail
        go_roundw
        case rel => exact ⟨k + 1, by omega, by go_num, ⟨B, d, L, rfl, by omega, HS.out, HO1.out, HC1.out.le (by omega), HG1.out⟩, HN1.out⟩
        case measure => simp [intOf]; omega
      · obtain ⟨nm, hnm, hnz⟩ : ∃ nm : ByteArray, w1.cell? ⟨w.heap.size + 1, k, none⟩ = some (.string nm) ∧ nm.size ≤ 20 := by
          have h := HN1.out.cell k
          rcases (show k = 0 ∨ k = 1 ∨ k = 2 ∨ k = 3 ∨ k = 4 ∨ k = 5 by omega) with rfl | rfl | rfl | rfl | rfl | rfl <;> exact ⟨_, h.trans rfl, by decide⟩
        go_wp2_with fail
        (refine (s_areaRow w0 g A c bs _ nm _ hA HC1.out (by omega) (by first | decide | omega)).mono ?_; rintro e w2 ⟨⟨r2, rfl, hr2⟩, hC2, hG2⟩; have HO2 := hid (HO1.out.keptG hG2 hgl); have HC2 := hid hC2; have HG2 := hid (HG1.out.trans hG2); have hz2 := HG2.out.size; clear hC2)
        go_upto_region 5 with (at_builtin; go_loud (refine wpList_appB (B := w.heap.size) rfl _ _ _ rfl 40 6 56 _ Tryd.underlying26 area_info rfl (by omega) (by omega) B d L L.length rfl rfl (HO2.out.grew (by (repeat (first | with_reducible exact grew_refl _ | with_reducible assumption | with_reducible refine grew_split ?_ | with_reducible refine grew_mk ?_ | with_reducible refine grew_plus ?_ | with_reducible refine grew_alloc ?_ | with_reducible refine grew_drew ?_ | (with_reducible refine grew_set ?_ (by first | exact Nat.le_refl _ | omega | (simp [go_sem]; done) | (simp [go_sem]; omega))))))) (by first | (simp [go_sem]; done) | (simp [go_sem]; omega) | (simp [go_sem, Ext.add]; done) | (simp [go_sem, Ext.add]; omega) | omega) (by omega) _ r2 _ rfl rfl (by intro j u hj; match j, hj with | 0, hj => simp [AreaR.row] at hj; subst hj; simp [Addr.add, go_sem] | 1, hj => simp [AreaR.row] at hj; subst hj; simp [Addr.add, go_sem] | 2, hj => simp [AreaR.row] at hj; subst hj; simp [Addr.add, go_sem] | 3, hj => simp [AreaR.row] at hj; subst hj; simp [Addr.add, go_sem] | 4, hj => simp [AreaR.row] at hj; subst hj; simp [Addr.add, go_sem] | 5, hj => simp [AreaR.row] at hj; subst hj; simp [Addr.add, go_sem]) (AreaR.one2 _) ?_); intro A9 c9 w9 hO9 hg9 hat9)
        (have HC9 := hid ((HC2.out.grew' (by (repeat (first | with_reducible exact grew_refl _ | with_reducible assumption | with_reducible refine grew_split ?_ | with_reducible refine grew_mk ?_ | with_reducible refine grew_plus ?_ | with_reducible refine grew_alloc ?_ | with_reducible refine grew_drew ?_ | (with_reducible refine grew_set ?_ (by first | exact Nat.le_refl _ | omega | (simp [go_sem]; done) | (simp [go_sem]; omega))))))).kept hg9 (fun k hk => by have := own_far HO2.out hk; omega)); have HG9 := hid (grown_join (HG2.out.trans (grown_of_grew (by (repeat (first | with_reducible exact grew_refl _ | with_reducible assumption | with_reducible refine grew_split ?_ | with_reducible refine grew_mk ?_ | with_reducible refine grew_plus ?_ | with_reducible refine grew_alloc ?_ | with_reducible refine grew_drew ?_ | (with_reducible refine grew_set ?_ (by first | exact Nat.le_refl _ | omega | (simp [go_sem]; done) | (simp [go_sem]; omega)))))) _)) hg9 (fun k hk => own_far HO2.out hk)); have HO9 := hid hO9)
        have HN9 := hid (blk_keptD (blk_grew (HN1.out.grown hG2 (fun e => by injection e with e; omega)) (by (repeat (first | with_reducible exact grew_refl _ | with_reducible assumption | with_reducible refine grew_split ?_ | with_reducible refine grew_mk ?_ | with_reducible refine grew_plus ?_ | with_reducible refine grew_alloc ?_ | with_reducible refine grew_drew ?_ | (with_reducible refine grew_set ?_ (by first | exact Nat.le_refl _ | omega | (simp [go_sem]; done) | (simp [go_sem]; omega))))))) (HO2.out.grew (by (repeat (first | with_reducible exact grew_refl _ | with_reducible assumption | with_reducible refine grew_split ?_ | with_reducible refine grew_mk ?_ | with_reducible refine grew_plus ?_ | with_reducible refine grew_alloc ?_ | with_reducible refine grew_drew ?_ | (with_reducible refine grew_set ?_ (by first | exact Nat.le_refl _ | omega | (simp [go_sem]; done) | (simp [go_sem]; omega))))))) (by decide) hg9)
        clear hO9 hg9 hat9
        go_wp2_with fail
        go_roundw
        case rel => exact ⟨k + 1, by omega, by go_num, ⟨A9, c9, L ++ [r2], vsl (by simp), by simp; omega, small_snoc HS.out hr2, HO9.out, HC9.out.le (by omega), HG9.out⟩, HN9.out⟩
        case measure => simp [intOf]; omega
    · obtain rfl : k = 6 := by omega
      clear HN0
      go_wp2_with fail
      refine (s_pick w0 g A c bs _ 30 _ hA HC0.out (by omega) (by omega)).mono ?_
      rintro e w1 ⟨⟨n, rfl, n0, n1⟩, hC1, hG1⟩
      have HC1 := hid hC1
      have HO1 := hid (HO0.out.keptG hG1 hgl)
      have HG1 := hid (HG0.out.trans hG1)
      clear hC1 hG1
      go_upto_block 2 with fail
      go_cut [3] (fun o wx => ARows w0 w g A c bs (M + 500) o 12 wx)
      case first =>
        rcases (show n = 0 ∨ n = 1 ∨ 1 < n by omega) with rfl | rfl | hn
        · go_wp2_with fail
          (refine (s_areaRow w0 g A c bs _ ⟨#[98, 97, 121]⟩ _ hA HC1.out (by omega) (by first | decide | omega)).mono ?_; rintro e w2 ⟨⟨r2, rfl, hr2⟩, hC2, hG2⟩; have HO2 := hid (HO1.out.keptG hG2 hgl); have HC2 := hid hC2; have HG2 := hid (HG1.out.trans hG2); have hz2 := HG2.out.size; clear hC2)
          go_wp2_with ((at_builtin; go_loud (refine wpList_appB (B := w.heap.size) rfl _ _ _ rfl 40 6 56 _ Tryd.underlying26 area_info rfl (by omega) (by omega) B d L L.length rfl rfl (HO2.out.grew (by (repeat (first | with_reducible exact grew_refl _ | with_reducible assumption | with_reducible refine grew_split ?_ | with_reducible refine grew_mk ?_ | with_reducible refine grew_plus ?_ | with_reducible refine grew_alloc ?_ | with_reducible refine grew_drew ?_ | (with_reducible refine grew_set ?_ (by first | exact Nat.le_refl _ | omega | (simp [go_sem]; done) | (simp [go_sem]; omega))))))) (by first | (simp [go_sem]; done) | (simp [go_sem]; omega) | (simp [go_sem, Ext.add]; done) | (simp [go_sem, Ext.add]; omega) | omega) (by omega) _ r2 _ rfl rfl (by intro j u hj; match j, hj with | 0, hj => simp [AreaR.row] at hj; subst hj; simp [Addr.add, go_sem] | 1, hj => simp [AreaR.row] at hj; subst hj; simp [Addr.add, go_sem] | 2, hj => simp [AreaR.row] at hj; subst hj; simp [Addr.add, go_sem] | 3, hj => simp [AreaR.row] at hj; subst hj; simp [Addr.add, go_sem] | 4, hj => simp [AreaR.row] at hj; subst hj; simp [Addr.add, go_sem] | 5, hj => simp [AreaR.row] at hj; subst hj; simp [Addr.add, go_sem]) (AreaR.one2 _) ?_); intro A9 c9 w9 hO9 hg9 hat9); (have HC9 := hid ((HC2.out.grew' (by (repeat (first | with_reducible exact grew_refl _ | with_reducible assumption | with_reducible refine grew_split ?_ | with_reducible refine grew_mk ?_ | with_reducible refine grew_plus ?_ | with_reducible refine grew_alloc ?_ | with_reducible refine grew_drew ?_ | (with_reducible refine grew_set ?_ (by first | exact Nat.le_refl _ | omega | (simp [go_sem]; done) | (simp [go_sem]; omega))))))).kept hg9 (fun k hk => by have := own_far HO2.out hk; omega)); have HG9 := hid (grown_join (HG2.out.trans (grown_of_grew (by (repeat (first | with_reducible exact grew_refl _ | with_reducible assumption | with_reducible refine grew_split ?_ | with_reducible refine grew_mk ?_ | with_reducible refine grew_plus ?_ | with_reducible refine grew_alloc ?_ | with_reducible refine grew_drew ?_ | (with_reducible refine grew_set ?_ (by first | exact Nat.le_refl _ | omega | (simp [go_sem]; done) | (simp [go_sem]; omega)))))) _)) hg9 (fun k hk => own_far HO2.out hk)); have HO9 := hid hO9))
          go_meet
          exact ⟨A9, c9, L ++ [r2], vsl (by simp), by simp; omega, small_snoc HS.out hr2, HO9.out, HC9.out.le (by omega), HG9.out⟩
        · go_wp2_with fail
          have hsz1 := HG1.out.size
          go_loopw [3, 6] (fun o i wr => ∃ (k : Nat), k ≤ 11 ∧ i = .int .i64 k ∧ ARows w0 w g A c bs (M + 330 + 4 * (k : Int)) o k wr) (fun _ i _ => 12 - (intOf i).toNat)
          case atStart => exact ⟨0, by omega, rfl, ⟨_, _, [], rfl, by simp, by simp, (Own.newIn (o := .cells #[] 40) (w := w1) (by (repeat (first | with_reducible exact grew_refl _ | with_reducible assumption | with_reducible refine grew_split ?_ | with_reducible refine grew_mk ?_ | with_reducible refine grew_plus ?_ | with_reducible refine grew_alloc ?_ | with_reducible refine grew_drew ?_ | (with_reducible refine grew_set ?_ (by first | exact Nat.le_refl _ | omega | (simp [go_sem]; done) | (simp [go_sem]; omega)))))) rfl rfl hsz1), (HC1.out.grew' (by (repeat (first | with_reducible exact grew_refl _ | with_reducible assumption | with_reducible refine grew_split ?_ | with_reducible refine grew_mk ?_ | with_reducible refine grew_plus ?_ | with_reducible refine grew_alloc ?_ | with_reducible refine grew_drew ?_ | (with_reducible refine grew_set ?_ (by first | exact Nat.le_refl _ | omega | (simp [go_sem]; done) | (simp [go_sem]; omega))))))).le (by omega), HG1.out.trans (grown_of_grew (by (repeat (first | with_reducible exact grew_refl _ | with_reducible assumption | with_reducible refine grew_split ?_ | with_reducible refine grew_mk ?_ | with_reducible refine grew_plus ?_ | with_reducible refine grew_alloc ?_ | with_reducible refine grew_drew ?_ | (with_reducible refine grew_set ?_ (by first | exact Nat.le_refl _ | omega | (simp [go_sem]; done) | (simp [go_sem]; omega)))))) _)⟩⟩
          case round =>
            obtain ⟨k, hk, rfl, ⟨B, d, L, rfl, hL, hs, hO, hC, hG⟩⟩ := hrel
            have HS := hid hs
            have HO2 := hid hO
            have HC2 := hid hC
            have HG2 := hid hG
            clear hs hO hC hG
            go_wp2_with fail
            refine (s_pick w0 g A c bs _ 2 _ hA HC2.out (by omega) (by omega)).mono ?_
            rintro e w3 ⟨⟨y, rfl, y0, y1⟩, hC3, hG3⟩
            have HC3 := hid hC3
            have HO3 := hid (HO2.out.keptG hG3 hgl)
            have HG3 := hid (HG2.out.trans hG3)
            have hz3 := HG3.out.size
            clear hC3 hG3
            by_cases hlt : (k : Int) < 10 + y
            · have hw8 : IntKind.u8.wrap (97 + (k : Int)) = 97 + (k : Int) := by rw [IntKind.wrap_u8]; omega
              have hback : ∀ W : World, (convert 30 9 (.slice (some ⟨W.heap.size, 0, none⟩) 1 1)).run Tryd.prog (W.alloc (.cells #[.int .u8 (97 + (k : Int))] 5)) = .ok (.string ⟨#[UInt8.ofNat (97 + k)]⟩) (W.alloc (.cells #[.int .u8 (97 + (k : Int))] 5)) := fun W => back_b W (97 + k) (by omega) _ (by omega)
              have hm0 : 0 ≤ (k : Int) % 10 := by omega
              go_upto_region 15 with (at_builtin; go_loud (refine wpList_appB (B := w.heap.size) rfl _ _ _ rfl 40 6 56 _ Tryd.underlying26 area_info rfl (by omega) (by omega) B d L L.length rfl rfl (HO3.out.grew (by (repeat (first | with_reducible exact grew_refl _ | with_reducible assumption | with_reducible refine grew_split ?_ | with_reducible refine grew_mk ?_ | with_reducible refine grew_plus ?_ | with_reducible refine grew_alloc ?_ | with_reducible refine grew_drew ?_ | (with_reducible refine grew_set ?_ (by first | exact Nat.le_refl _ | omega | (simp [go_sem]; done) | (simp [go_sem]; omega))))))) (by first | (simp [go_sem]; done) | (simp [go_sem]; omega) | (simp [go_sem, Ext.add]; done) | (simp [go_sem, Ext.add]; omega) | omega) (by omega) _ (⟨⟨#[UInt8.ofNat (97 + k)]⟩, 10, (k : Int) % 10, (k : Int) % 10, 0, 0⟩ : AreaR) _ rfl rfl (by intro j u hj; match j, hj with | 0, hj => simp [AreaR.row] at hj; subst hj; simp [Addr.add, go_sem] | 1, hj => simp [AreaR.row] at hj; subst hj; simp [Addr.add, go_sem] | 2, hj => simp [AreaR.row] at hj; subst hj; simp [Addr.add, go_sem] | 3, hj => simp [AreaR.row] at hj; subst hj; simp [Addr.add, go_sem] | 4, hj => simp [AreaR.row] at hj; subst hj; simp [Addr.add, go_sem] | 5, hj => simp [AreaR.row] at hj; subst hj; simp [Addr.add, go_sem]) (AreaR.one2 _) ?_); intro A9 c9 w9 hO9 hg9 hat9)
              (have HC9 := hid ((HC3.out.grew' (by (repeat (first | with_reducible exact grew_refl _ | with_reducible assumption | with_reducible refine grew_split ?_ | with_reducible refine grew_mk ?_ | with_reducible refine grew_plus ?_ | with_reducible refine grew_alloc ?_ | with_reducible refine grew_drew ?_ | (with_reducible refine grew_set ?_ (by first | exact Nat.le_refl _ | omega | (simp [go_sem]; done) | (simp [go_sem]; omega))))))).kept hg9 (fun k hk => by have := own_far HO3.out hk; omega)); have HG9 := hid (grown_join (HG3.out.trans (grown_of_grew (by (repeat (first | with_reducible exact grew_refl _ | with_reducible assumption | with_reducible refine grew_split ?_ | with_reducible refine grew_mk ?_ | with_reducible refine grew_plus ?_ | with_reducible refine grew_alloc ?_ | with_reducible refine grew_drew ?_ | (with_reducible refine grew_set ?_ (by first | exact Nat.le_refl _ | omega | (simp [go_sem]; done) | (simp [go_sem]; omega)))))) _)) hg9 (fun k hk => own_far HO3.out hk)); have HO9 := hid hO9)
              clear hO9 hg9 hat9 hw8 hback
              go_wp2_with fail
              go_roundw
              case rel => exact ⟨k + 1, by omega, by go_num, ⟨A9, c9, _, vsl (by simp), by simp; omega, small_snoc HS.out (by show (1 : Nat) ≤ 20; omega), HO9.out, HC9.out.le (by omega), HG9.out⟩⟩
              case measure => simp [intOf]; omega
            · go_wp2_with fail
              go_meet
              exact ⟨B, d, L, rfl, by omega, HS.out, HO3.out, HC3.out.le (by omega), HG3.out⟩
        · have e0 : (n == 0) = false := by simp; omega
          have e1 : (n == 1) = false := by simp; omega
          go_wp2_with fail
          go_meet
          exact ⟨B, d, L, rfl, by omega, HS.out, HO1.out, HC1.out.le (by omega), HG1.out⟩
      case rest =>
        obtain ⟨B, d, L, rfl, hL, hs, hO, hC, hG⟩ := hcut
        have HS := hid hs
        have HO2 := hid hO
        have HC2 := hid hC
        have HG2 := hid hG
        clear hs hO hC hG
        go_wp2_with fail
        go_ret
        exact ⟨⟨B, d, L, rfl, HO2.out.f (fun _ => rfl), hL, HS.out⟩, HC2.out.le (by omega), HG2.out⟩
set_option maxHeartbeats 2000000 in
theorem s_areaName (w0 : World) (g : Nat) (A : Option Addr) (c : Nat) (bs : List Int) (M : Int) (L : List AreaR) (B : Option Addr) (d : Nat) (w : World) (hA : Code0 w0 A bs) (hC : CurU w0 w g A c bs M) (h1 : M ≤ 1099511600000) (hB : Sl w 6 AreaR.row B L) (hne : 0 < L.length → ∀ a, B = some a → a.block ≠ g) (hl : L.length ≤ 12) (hs : ∀ r ∈ L, r.nm.size ≤ 20) :
    Calls Tryd.prog 48 #[.pointer (some ⟨g, 0, none⟩), .slice B L.length d] w fun e w' => (∃ x : ByteArray, e = .returned (.string x) ∧ x.size ≤ 20) ∧ CurU w0 w' g A c bs (M + 10) ∧ w.grownBy w' (some g) := by
  have HC := hid hC
  have HB := hid hB
  have HS := hid hs
  have HN := hid hne
  have hgl := hC.lt
  clear hC hB hs hne
  by_cases h0 : L.length = 0
  · have hL : L = [] := List.eq_nil_of_length_eq_zero h0
    subst hL
    clear h0
    go_enter Tryd.func48, Tryd.ntmps48
    go_wp2_with fail
    refine (s_ofL w0 g A c bs _ [_, _, _] _ rfl _ _ _ (by simp) hA (HC.out.grew' (by (repeat (first | with_reducible exact grew_refl _ | with_reducible assumption | with_reducible refine grew_split ?_ | with_reducible refine grew_mk ?_ | with_reducible refine grew_plus ?_ | with_reducible refine grew_alloc ?_ | with_reducible refine grew_drew ?_ | (with_reducible refine grew_set ?_ (by first | exact Nat.le_refl _ | omega | (simp [go_sem]; done) | (simp [go_sem]; omega))))))) (by omega) (by simp) (by simp)).mono ?_
    rintro e w6 ⟨⟨x6, rfl, hx6⟩, hC6, hG6⟩
    have hx20 : x6.size ≤ 20 := by simp at hx6; rcases hx6 with rfl | rfl | rfl <;> decide
    have HC6 := hid hC6
    have HG6 := hid hG6
    clear hC6 hG6 hx6
    go_wp2_with fail
    go_ret
    exact ⟨⟨x6, rfl, hx20⟩, HC6.out.le (by omega), HG6.out⟩
  · have e0 : ((L.length : Int) == 0) = false := by simp; intro e; subst e; simp at h0
    have e1 : (L.length == 0) = false := by simp; intro e; subst e; simp at h0
    have hpos : 0 < L.length := by omega
    have HN := hid (HN.out hpos)
    clear h0
    go_enter Tryd.func48, Tryd.ntmps48
    go_wp2_with fail
    refine (s_one w0 g A c bs _ 10 _ hA HC.out (by omega) (by omega)).mono ?_
    rintro e w1 ⟨⟨b, rfl⟩, hC1, hG1⟩
    have HC1 := hid hC1
    have HB1 := hid (sl_kept HB.out hG1 HN.out)
    have HG1 := hid hG1
    clear hC1 hG1
    cases b
    · go_wp2_with fail
      refine (s_pick w0 g A c bs _ L.length _ hA HC1.out (by omega) (by omega)).mono ?_
      rintro e w2 ⟨⟨x, rfl, x0, x1⟩, hC2, hG2⟩
      obtain ⟨k, hk0⟩ : ∃ k : Nat, x = (k : Int) := ⟨x.toNat, by omega⟩
      subst hk0
      have hk : k < L.length := by omega
      have hkl : (k : Int) < (L.length : Int) := by omega
      have HN' := HN.out
      obtain ⟨b, off, hBe, hb, hc⟩ := (sl_kept HB1.out hG2 HN').at_ hk
      subst hBe
      obtain ⟨hc0, hc1, hc2, hc3, hc4, hc5⟩ := AreaR.cells6 hc hk
      have hz := HS.out _ (List.getElem_mem hk)
      have HC2 := hid hC2
      have HG2 := hid (HG1.out.trans hG2)
      clear hC2 hG2 hc HN' e0 e1
      go_wp2_with fail
      go_ret
      exact ⟨⟨_, rfl, hz⟩, HC2.out.le (by omega), HG2.out⟩
    · go_wp2_with fail
      refine (s_ofL w0 g A c bs _ [_, _, _] _ rfl _ _ _ (by simp) hA (HC1.out.grew' (by (repeat (first | with_reducible exact grew_refl _ | with_reducible assumption | with_reducible refine grew_split ?_ | with_reducible refine grew_mk ?_ | with_reducible refine grew_plus ?_ | with_reducible refine grew_alloc ?_ | with_reducible refine grew_drew ?_ | (with_reducible refine grew_set ?_ (by first | exact Nat.le_refl _ | omega | (simp [go_sem]; done) | (simp [go_sem]; omega))))))) (by omega) (by simp) (by simp)).mono ?_
      rintro e w6 ⟨⟨x6, rfl, hx6⟩, hC6, hG6⟩
      have hx20 : x6.size ≤ 20 := by simp at hx6; rcases hx6 with rfl | rfl | rfl <;> decide
      have HC6 := hid hC6
      have HG6 := hid (HG1.out.trans hG6)
      clear hC6 hG6 hx6
      go_wp2_with fail
      go_ret
      exact ⟨⟨x6, rfl, hx20⟩, HC6.out.le (by omega), HG6.out⟩
theorem cur_new (w : World) (A : Option Addr) (c : Nat) (bs : List Int) (g : Nat) (hg : g = w.heap.size) : CurU w (w.alloc (.cells #[.slice A bs.length c, .int .i64 0, .int .u64 0] 64)) g A c bs 0 := by
  subst hg
  exact ⟨0, ⟨by (repeat (first | with_reducible exact grew_refl _ | with_reducible assumption | with_reducible refine grew_split ?_ | with_reducible refine grew_mk ?_ | with_reducible refine grew_plus ?_ | with_reducible refine grew_alloc ?_ | with_reducible refine grew_drew ?_ | (with_reducible refine grew_set ?_ (by first | exact Nat.le_refl _ | omega | (simp [go_sem]; done) | (simp [go_sem]; omega))))), Nat.le_refl _, ⟨0, Blk.new _ _ _⟩, by omega⟩, by omega⟩
set_option maxHeartbeats 1000000 in
theorem s_DrawAreas (A : Option Addr) (c : Nat) (bs : List Int) (w : World) (hA : Code0 w A bs) :
    Calls Tryd.prog 37 #[.slice A bs.length c] w fun e w' => (∃ (B : Option Addr) (d : Nat) (L : List AreaR), e = .returned (.slice B L.length d) ∧ OwnF w.heap.size 40 6 AreaR.row w' B L ∧ L.length ≤ 12 ∧ ∀ r ∈ L, r.nm.size ≤ 20) ∧ ∃ g, w' = plus w g := by
  have HA := hid hA
  clear hA
  go_enter Tryd.func37, Tryd.ntmps37
  go_wp2_with fail
  refine (s_areaRows w w.heap.size A c bs 0 _ HA.out (cur_new w A c bs _ rfl) (by omega)).mono ?_
  rintro e w1 ⟨⟨B, d, L, rfl, hO, hl, hs⟩, hC1, -⟩
  have HO := hid hO
  have HS := hid hs
  have hw := hid hC1.world
  clear hO hs hC1
  go_wp2_with fail
  go_ret
  exact ⟨⟨B, d, L, rfl, HO.out.less (by simp), hl, HS.out⟩, hw.out⟩
theorem s_DrawWork (A : Option Addr) (c : Nat) (bs : List Int) (w : World) (hA : Code0 w A bs) :
    Calls Tryd.prog 11 #[.slice A bs.length c] w fun e w' => (∃ (B : Option Addr) (d : Nat) (L : List AreaR), e = .returned (.slice B L.length d) ∧ OwnF w.heap.size 40 6 AreaR.row w' B L ∧ L.length ≤ 12 ∧ ∀ r ∈ L, r.nm.size ≤ 20) ∧ ∃ g, w' = plus w g := by
  have HA := hid hA
  clear hA
  go_enter Tryd.func11, Tryd.ntmps11
  go_wp2_with fail
  refine (s_DrawAreas A c bs w HA.out).mono ?_
  rintro e w1 ⟨⟨B, d, L, rfl, hO, hl, hs⟩, hg⟩
  have HO := hid hO
  have HS := hid hs
  have HG := hid hg
  clear hO hs hg
  go_wp2_with fail
  go_ret
  exact ⟨⟨B, d, L, rfl, HO.out, hl, HS.out⟩, HG.out⟩
end Go.Proofs.YteogidghoohgaaaDoor
