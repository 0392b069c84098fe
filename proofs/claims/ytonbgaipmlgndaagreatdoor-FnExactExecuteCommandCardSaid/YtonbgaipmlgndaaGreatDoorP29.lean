import Derived.Test.YtonbgaipmlgndaaGreatDoorP12
import Derived.Test.YtonbgaipmlgndaaGreatDoorP27
import Derived.Test.YtonbgaipmlgndaaGreatDoorP28
import Derived.Deep.RegionWith
import Derived.Deep.RegionHeld3
import Derived.Deep.DrawnRows
/- What the law FnExactExecuteCommand computes. -/
namespace Go.Proofs.YtonbgaipmlgndaaGreatDoor
open Go.ChangeShapes Go.WideShapes Go.ChangeAt Go.RowKit Go.Deep Go.Joins
open Go.ChangeMaps (open_string shut_string)

theorem stepF_len {v : DayC} {k x : Int} : (stepF v k x).1.lines.length ≤ 8 := by
  cases h : (stepF v k x).2
  · rw [stepF_no h]; simp [noDay]
  · have := DayC.bounds (stepF_ok h); omega
theorem orNo_len (d : DayC) (line : ByteArray) : (orNo d (runC d line)).1.lines.length ≤ max 8 d.lines.length := by
  have hs : ∀ k x, (orNo d (doStep d k x)).1.lines.length ≤ max 8 d.lines.length := by
    intro k x
    unfold doStep orNo
    split
    · simp only [Option.getD_some]
      have : (stepAll d k x).1.lines.length ≤ 8 := by
        unfold stepAll
        split
        · exact stepF_len
        · simp [noDay]
      omega
    · simp only [Option.getD_none]
      omega
  have hn : (orNo d none).1.lines.length ≤ max 8 d.lines.length := by
    simp only [orNo, Option.getD_none]
    omega
  unfold runC
  split
  · split
    · exact hn
    · split
      · cases doAsk d _ with
        | none => exact hn
        | some r => simp only [orNo, Option.map_some, Option.getD_some]; omega
      · exact hs _ _
  · split
    · split
      · exact hs _ _
      · exact hn
    · exact hn
  · exact hn
theorem exeF_len (d : DayC) (l : LogR) (line : ByteArray) : (exeF d l line).1.lines.length ≤ max 8 d.lines.length := by
  cases hc : conOk d l
  · rw [exeF_no hc]
    simp only
    omega
  cases hr : recOk line ⟨#[]⟩
  · rw [exeF_bad hc hr]
    simp only
    omega
  by_cases hn : l.n = 60
  · rw [exeF_full hc hr hn]
    simp only
    omega
  · rw [exeF_main hc hr hn]
    exact orNo_len d line
set_option maxHeartbeats 8000000 in
set_option maxRecDepth 100000 in
theorem l_FnExactExecuteCommand (v : DayV) (l : LogR) (line : ByteArray) (w : World) (hv : v.At w) (h1 : l.d.size ≤ maxLen) (h2 : l.p.size ≤ maxLen) (hE : Env w) (hY : Syn w) :
    Calls Tryz.prog 4 #[ConV.val ⟨v, l⟩, .string line] w fun e' w' => e' = .returned (.bool true) ∧ ∃ g, w' = plus w g := by
  have HV := hid hv
  have HE := hid hE
  have HY := hid hY
  clear hv hE hY
  by_cases hbig : 1048576 < (line.size : Int)
  · go_enter Tryz.func4, Tryz.ntmps4
    go_wp2_with fail
    go_ret
    exact ⟨rfl, by (repeat (first | with_reducible exact grew_refl _ | with_reducible assumption | with_reducible refine grew_split ?_ | with_reducible refine grew_mk ?_ | with_reducible refine grew_plus ?_ | with_reducible refine grew_alloc ?_ | with_reducible refine grew_drew ?_ | (with_reducible refine grew_set ?_ (by first | exact Nat.le_refl _ | omega | (simp [go_sem]; done) | (simp [go_sem]; omega)))))⟩
  obtain ⟨D, m, r, hp⟩ : ∃ D m r, exeF v.core l line = (D, m, r) := ⟨_, _, _, rfl⟩
  have hD := exeF_len v.core l line
  rw [hp] at hD
  simp only at hD
  have HP := hid hp
  clear hp
  go_enter Tryz.func4, Tryz.ntmps4
  go_wp2_with fail
  (refine (l_szConsole v l _ _ (HV.out.grew (by (repeat (first | with_reducible exact grew_refl _ | with_reducible assumption | with_reducible refine grew_split ?_ | with_reducible refine grew_mk ?_ | with_reducible refine grew_plus ?_ | with_reducible refine grew_alloc ?_ | with_reducible refine grew_drew ?_ | (with_reducible refine grew_set ?_ (by first | exact Nat.le_refl _ | omega | (simp [go_sem]; done) | (simp [go_sem]; omega))))))) h1 h2 (by omega) (by omega)).mono ?_; rintro e w' ⟨⟨kz, rfl, k1, k2, k3⟩, gx, rfl⟩)
  by_cases hneg : kz < 0
  · go_wp2_with fail
    go_ret
    exact ⟨rfl, by (repeat (first | with_reducible exact grew_refl _ | with_reducible assumption | with_reducible refine grew_split ?_ | with_reducible refine grew_mk ?_ | with_reducible refine grew_plus ?_ | with_reducible refine grew_alloc ?_ | with_reducible refine grew_drew ?_ | (with_reducible refine grew_set ?_ (by first | exact Nat.le_refl _ | omega | (simp [go_sem]; done) | (simp [go_sem]; omega)))))⟩
  obtain ⟨k4, k5, k6⟩ := k3 (by omega)
  have hD' : D.lines.length ≤ 1048576 := by omega
  clear k3 hD
  go_wp2_with fail
  (refine (l_toConsole v l _ (HV.out.grew (by (repeat (first | with_reducible exact grew_refl _ | with_reducible assumption | with_reducible refine grew_split ?_ | with_reducible refine grew_mk ?_ | with_reducible refine grew_plus ?_ | with_reducible refine grew_alloc ?_ | with_reducible refine grew_drew ?_ | (with_reducible refine grew_set ?_ (by first | exact Nat.le_refl _ | omega | (simp [go_sem]; done) | (simp [go_sem]; omega))))))) k4).mono ?_; rintro e w' ⟨⟨AU1, cU1, rfl, huU1, hoU1⟩, gxU1, rfl⟩; (try rw [plus_plus] at huU1 hoU1); have U1 := hid huU1; have U1o := hid hoU1; clear huU1 hoU1; go_wp2_with fail)
  refine (s_ExecuteCommand ⟨v.core, _, _⟩ l line _ U1o.out.sl k4 (by omega) (by omega) (by omega) (HE.out.grew (by (repeat (first | with_reducible exact grew_refl _ | with_reducible assumption | with_reducible refine grew_split ?_ | with_reducible refine grew_mk ?_ | with_reducible refine grew_plus ?_ | with_reducible refine grew_alloc ?_ | with_reducible refine grew_drew ?_ | (with_reducible refine grew_set ?_ (by first | exact Nat.le_refl _ | omega | (simp [go_sem]; done) | (simp [go_sem]; omega)))))))).mono ?_
  rw [HP.out]
  rintro e w' ⟨⟨A1, c1, rfl, hO1⟩, g1, rfl⟩
  (try rw [plus_plus] at hO1)
  have O1 := hid hO1
  clear hO1
  go_wp2_with fail
  generalize hb1 : w.heap.size + 1 + ((gx.add gxU1).add g1).objs.size = b1
  refine opq_calls (fun W1 => Blk W1 w.heap.size 37 #[.int .i64 (v.core).minute, .int .i64 (v.core).state, .slice v.A (v.core).lines.length v.c, .int .i64 (v.core).line, .int .i64 (v.core).since, .int .i64 (v.core).cast, .int .i64 (v.core).fuel, .string (l).d, .string (l).p, .int .i64 (l).n] ∧ Blk W1 b1 43 #[.int .i64 (D).minute, .int .i64 (D).state, .slice A1 (D).lines.length c1, .int .i64 (D).line, .int .i64 (D).since, .int .i64 (D).cast, .int .i64 (D).fuel, .string (m).d, .string (m).p, .int .i64 (m).n] ∧ DayV.At W1 ⟨D, A1, c1⟩ ∧ ∃ g, W1 = plus w g) ⟨blk_grew (blk_new rfl) (by (repeat (first | with_reducible exact grew_refl _ | with_reducible assumption | with_reducible refine grew_split ?_ | with_reducible refine grew_mk ?_ | with_reducible refine grew_plus ?_ | with_reducible refine grew_alloc ?_ | with_reducible refine grew_drew ?_ | (with_reducible refine grew_set ?_ (by first | exact Nat.le_refl _ | omega | (simp [go_sem]; done) | (simp [go_sem]; omega)))))), blk_new (by subst hb1; simp [go_sem]), DayV.At.mk (v := ⟨D, A1, c1⟩) (O1.out.sl.grew (by (repeat (first | with_reducible exact grew_refl _ | with_reducible assumption | with_reducible refine grew_split ?_ | with_reducible refine grew_mk ?_ | with_reducible refine grew_plus ?_ | with_reducible refine grew_alloc ?_ | with_reducible refine grew_drew ?_ | (with_reducible refine grew_set ?_ (by first | exact Nat.le_refl _ | omega | (simp [go_sem]; done) | (simp [go_sem]; omega))))))) (by unfold maxLen; simp only; omega), by (repeat (first | with_reducible exact grew_refl _ | with_reducible assumption | with_reducible refine grew_split ?_ | with_reducible refine grew_mk ?_ | with_reducible refine grew_plus ?_ | with_reducible refine grew_alloc ?_ | with_reducible refine grew_drew ?_ | (with_reducible refine grew_set ?_ (by first | exact Nat.le_refl _ | omega | (simp [go_sem]; done) | (simp [go_sem]; omega)))))⟩ ?_
  clear hb1 O1 U1 U1o
  rintro W1 ⟨hA, hB1, hV1, hg1⟩
  have HA1 := hid hA
  have HB1 := hid hB1
  have V1 := hid hV1
  have HG1 := hid hg1
  clear hA hB1 hV1 hg1
  refine (l_toConsole v l _ (HV.out.grew HG1.out) k4).mono ?_
  rintro e w' ⟨⟨AU2, cU2, rfl, -, ho2⟩, gx2, rfl⟩
  have U2o := hid ho2
  clear ho2
  go_wp2_with fail
  generalize hb2 : W1.heap.size + gx2.objs.size = b2
  refine opq_calls (fun W2 => Blk W2 b2 43 #[.int .i64 (v.core).minute, .int .i64 (v.core).state, .slice AU2 (v.core).lines.length cU2, .int .i64 (v.core).line, .int .i64 (v.core).since, .int .i64 (v.core).cast, .int .i64 (v.core).fuel, .string (l).d, .string (l).p, .int .i64 (l).n] ∧ OwnF W1.heap.size 102 2 LineR.row W2 AU2 v.core.lines ∧ ∃ g, W2 = plus W1 g) ⟨blk_new (by subst hb2; simp [go_sem]), U2o.out.f.grew (by (repeat (first | with_reducible exact grew_refl _ | with_reducible assumption | with_reducible refine grew_split ?_ | with_reducible refine grew_mk ?_ | with_reducible refine grew_plus ?_ | with_reducible refine grew_alloc ?_ | with_reducible refine grew_drew ?_ | (with_reducible refine grew_set ?_ (by first | exact Nat.le_refl _ | omega | (simp [go_sem]; done) | (simp [go_sem]; omega)))))), by (repeat (first | with_reducible exact grew_refl _ | with_reducible assumption | with_reducible refine grew_split ?_ | with_reducible refine grew_mk ?_ | with_reducible refine grew_plus ?_ | with_reducible refine grew_alloc ?_ | with_reducible refine grew_drew ?_ | (with_reducible refine grew_set ?_ (by first | exact Nat.le_refl _ | omega | (simp [go_sem]; done) | (simp [go_sem]; omega)))))⟩ ?_
  clear hb2 U2o
  rintro W2 ⟨hB2, hU2, hg2⟩
  have HB2 := hid hB2
  have U2 := hid hU2
  have HG2 := hid hg2
  have hg20 : ∃ g, W2 = plus w g := grew_two' HG1.out (by obtain ⟨_, rfl⟩ := hg2; (repeat (first | with_reducible exact grew_refl _ | with_reducible assumption | with_reducible refine grew_split ?_ | with_reducible refine grew_mk ?_ | with_reducible refine grew_plus ?_ | with_reducible refine grew_alloc ?_ | with_reducible refine grew_drew ?_ | (with_reducible refine grew_set ?_ (by first | exact Nat.le_refl _ | omega | (simp [go_sem]; done) | (simp [go_sem]; omega))))))
  have HE2 := hid (HE.out.grew hg20)
  have HY2 := hid (HY.out.grew hg20)
  have HB12 := blk_grew HB1.out hg2
  have hlt1 := HB12.lt
  (have ho0 := HB12.cell 0; have ho1 := HB12.cell 1; have ho2 := HB12.cell 2; have ho3 := HB12.cell 3; have ho4 := HB12.cell 4; have ho5 := HB12.cell 5; have ho6 := HB12.cell 6; have ho7 := HB12.cell 7; have ho8 := HB12.cell 8; have ho9 := HB12.cell 9; simp [go_sem] at ho0 ho1 ho2 ho3 ho4 ho5 ho6 ho7 ho8 ho9)
  clear hB2 hU2 hg2 hg20 HB12
  refine (i_ExecuteCommand ⟨v.core, AU2, cU2⟩ l line _ U2.out.sl k4 (by omega) (by omega) (by omega) HE2.out HY2.out).mono ?_
  rw [HP.out]
  rintro e w' ⟨⟨A3, c3, rfl, hO3⟩, g3, rfl⟩
  have O3 := hid hO3
  clear hO3
  go_wp2_with fail
  generalize hb3 : W2.heap.size + g3.objs.size = b3
  refine opq_calls (fun W3 => Blk W3 b3 43 #[.int .i64 (D).minute, .int .i64 (D).state, .slice A3 (D).lines.length c3, .int .i64 (D).line, .int .i64 (D).since, .int .i64 (D).cast, .int .i64 (D).fuel, .string (m).d, .string (m).p, .int .i64 (m).n] ∧ OwnF W2.heap.size 102 2 LineR.row W3 A3 D.lines ∧ (∀ k, rowOf A3 D.lines = some k → k ≠ b3) ∧ W2.heap.size ≤ b3 ∧ ∃ g, W3 = plus W2 g) ⟨blk_new (by subst hb3; simp [go_sem]), O3.out.grew (by (repeat (first | with_reducible exact grew_refl _ | with_reducible assumption | with_reducible refine grew_split ?_ | with_reducible refine grew_mk ?_ | with_reducible refine grew_plus ?_ | with_reducible refine grew_alloc ?_ | with_reducible refine grew_drew ?_ | (with_reducible refine grew_set ?_ (by first | exact Nat.le_refl _ | omega | (simp [go_sem]; done) | (simp [go_sem]; omega)))))), (fun k hk => by have hz := O3.out.row k hk; simp [go_sem] at hz; omega), by omega, by (repeat (first | with_reducible exact grew_refl _ | with_reducible assumption | with_reducible refine grew_split ?_ | with_reducible refine grew_mk ?_ | with_reducible refine grew_plus ?_ | with_reducible refine grew_alloc ?_ | with_reducible refine grew_drew ?_ | (with_reducible refine grew_set ?_ (by first | exact Nat.le_refl _ | omega | (simp [go_sem]; done) | (simp [go_sem]; omega)))))⟩ ?_
  clear hb3 O3
  clear ho0 ho1 ho2 ho3 ho4 ho5 ho6 ho7 ho8 ho9
  rintro W3 ⟨hB3, hO3, hR3, hN3, hg3⟩
  have HB3 := hid hB3
  have O3 := hid hO3
  have HR3 := hid hR3
  have HN3 := hid hN3
  have HG3 := hid hg3
  have hg31 : ∃ g, W3 = plus W1 g := grew_two' HG2.out (by obtain ⟨_, rfl⟩ := hg3; (repeat (first | with_reducible exact grew_refl _ | with_reducible assumption | with_reducible refine grew_split ?_ | with_reducible refine grew_mk ?_ | with_reducible refine grew_plus ?_ | with_reducible refine grew_alloc ?_ | with_reducible refine grew_drew ?_ | (with_reducible refine grew_set ?_ (by first | exact Nat.le_refl _ | omega | (simp [go_sem]; done) | (simp [go_sem]; omega))))))
  have HG31 := hid hg31
  have HBA3 := hid (blk_grew HA1.out hg31)
  have HB23 := hid (blk_grew HB2.out hg3)
  have V13 := hid (V1.out.grew hg31)
  have V33 := hid (DayV.At.mk (v := ⟨D, A3, c3⟩) hO3.sl (by unfold maxLen; simp only; omega))
  have U23 := hid (U2.out.grew hg3)
  have VU23 := hid (DayV.At.mk (v := ⟨v.core, AU2, cU2⟩) U23.out.sl (by unfold maxLen; simp only; omega))
  have hg30 : ∃ g, W3 = plus w g := grew_two' HG1.out hg31
  have HV3 := hid (HV.out.grew hg30)
  clear hB3 hO3 hR3 hN3 hg3 hg31 hg30 hlt1
  refine (l_eqCon D m A3 A1 c3 c1 _ V33.out V13.out).mono ?_
  rintro e w' ⟨rfl, ge1, rfl⟩
  have e1 : (r.toList == r.toList) = true := by simp
  go_wp2_with fail
  have hlt2 := HB23.out.lt
  have hlt3 := HBA3.out.lt
  (have hx0 := HB23.out.cell 0; have hx1 := HB23.out.cell 1; have hx2 := HB23.out.cell 2; have hx3 := HB23.out.cell 3; have hx4 := HB23.out.cell 4; have hx5 := HB23.out.cell 5; have hx6 := HB23.out.cell 6; have hx7 := HB23.out.cell 7; have hx8 := HB23.out.cell 8; have hx9 := HB23.out.cell 9; simp [go_sem] at hx0 hx1 hx2 hx3 hx4 hx5 hx6 hx7 hx8 hx9)
  (have hq0 := HBA3.out.cell 0; have hq1 := HBA3.out.cell 1; have hq2 := HBA3.out.cell 2; have hq3 := HBA3.out.cell 3; have hq4 := HBA3.out.cell 4; have hq5 := HBA3.out.cell 5; have hq6 := HBA3.out.cell 6; have hq7 := HBA3.out.cell 7; have hq8 := HBA3.out.cell 8; have hq9 := HBA3.out.cell 9; simp [go_sem] at hq0 hq1 hq2 hq3 hq4 hq5 hq6 hq7 hq8 hq9)
  have KEEP : Hid (∀ W : World, (∃ g, W = plus W3 g) → ((fun w' => (w'.cell? ⟨b2, 0, none⟩ = some (.int .i64 (v.core).minute) ∧ w'.cell? ⟨b2, 1, none⟩ = some (.int .i64 (v.core).state) ∧ w'.cell? ⟨b2, 2, none⟩ = some (.slice AU2 (v.core).lines.length cU2) ∧ w'.cell? ⟨b2, 3, none⟩ = some (.int .i64 (v.core).line) ∧ w'.cell? ⟨b2, 4, none⟩ = some (.int .i64 (v.core).since) ∧ w'.cell? ⟨b2, 5, none⟩ = some (.int .i64 (v.core).cast) ∧ w'.cell? ⟨b2, 6, none⟩ = some (.int .i64 (v.core).fuel) ∧ w'.cell? ⟨b2, 7, none⟩ = some (.string (l).d) ∧ w'.cell? ⟨b2, 8, none⟩ = some (.string (l).p) ∧ w'.cell? ⟨b2, 9, none⟩ = some (.int .i64 (l).n)) ∧ w'.cell? ⟨w.heap.size, 0, none⟩ = some (.int .i64 (v.core).minute) ∧ w'.cell? ⟨w.heap.size, 1, none⟩ = some (.int .i64 (v.core).state) ∧ w'.cell? ⟨w.heap.size, 2, none⟩ = some (.slice v.A (v.core).lines.length v.c) ∧ w'.cell? ⟨w.heap.size, 3, none⟩ = some (.int .i64 (v.core).line) ∧ w'.cell? ⟨w.heap.size, 4, none⟩ = some (.int .i64 (v.core).since) ∧ w'.cell? ⟨w.heap.size, 5, none⟩ = some (.int .i64 (v.core).cast) ∧ w'.cell? ⟨w.heap.size, 6, none⟩ = some (.int .i64 (v.core).fuel) ∧ w'.cell? ⟨w.heap.size, 7, none⟩ = some (.string (l).d) ∧ w'.cell? ⟨w.heap.size, 8, none⟩ = some (.string (l).p) ∧ w'.cell? ⟨w.heap.size, 9, none⟩ = some (.int .i64 (l).n))) W) := hid (by
    rintro W ⟨g, rfl⟩
    simp only [cell?_plus _ _ hlt2, cell?_plus _ _ hlt3, hx0, hx1, hx2, hx3, hx4, hx5, hx6, hx7, hx8, hx9, hq0, hq1, hq2, hq3, hq4, hq5, hq6, hq7, hq8, hq9, and_self])
  go_region_held3 (fun w' => (w'.cell? ⟨b2, 0, none⟩ = some (.int .i64 (v.core).minute) ∧ w'.cell? ⟨b2, 1, none⟩ = some (.int .i64 (v.core).state) ∧ w'.cell? ⟨b2, 2, none⟩ = some (.slice AU2 (v.core).lines.length cU2) ∧ w'.cell? ⟨b2, 3, none⟩ = some (.int .i64 (v.core).line) ∧ w'.cell? ⟨b2, 4, none⟩ = some (.int .i64 (v.core).since) ∧ w'.cell? ⟨b2, 5, none⟩ = some (.int .i64 (v.core).cast) ∧ w'.cell? ⟨b2, 6, none⟩ = some (.int .i64 (v.core).fuel) ∧ w'.cell? ⟨b2, 7, none⟩ = some (.string (l).d) ∧ w'.cell? ⟨b2, 8, none⟩ = some (.string (l).p) ∧ w'.cell? ⟨b2, 9, none⟩ = some (.int .i64 (l).n)) ∧ w'.cell? ⟨w.heap.size, 0, none⟩ = some (.int .i64 (v.core).minute) ∧ w'.cell? ⟨w.heap.size, 1, none⟩ = some (.int .i64 (v.core).state) ∧ w'.cell? ⟨w.heap.size, 2, none⟩ = some (.slice v.A (v.core).lines.length v.c) ∧ w'.cell? ⟨w.heap.size, 3, none⟩ = some (.int .i64 (v.core).line) ∧ w'.cell? ⟨w.heap.size, 4, none⟩ = some (.int .i64 (v.core).since) ∧ w'.cell? ⟨w.heap.size, 5, none⟩ = some (.int .i64 (v.core).cast) ∧ w'.cell? ⟨w.heap.size, 6, none⟩ = some (.int .i64 (v.core).fuel) ∧ w'.cell? ⟨w.heap.size, 7, none⟩ = some (.string (l).d) ∧ w'.cell? ⟨w.heap.size, 8, none⟩ = some (.string (l).p) ∧ w'.cell? ⟨w.heap.size, 9, none⟩ = some (.int .i64 (l).n)) (exact KEEP.out _ (by (repeat (first | with_reducible exact grew_refl _ | with_reducible assumption | with_reducible refine grew_split ?_ | with_reducible refine grew_mk ?_ | with_reducible refine grew_plus ?_ | with_reducible refine grew_alloc ?_ | with_reducible refine grew_drew ?_ | (with_reducible refine grew_set ?_ (by first | exact Nat.le_refl _ | omega | (simp [go_sem]; done) | (simp [go_sem]; omega))))))) (first | (go_at_call 17; refine (l_toConsole v l _ (HV3.out.grew (by (repeat (first | with_reducible exact grew_refl _ | with_reducible assumption | with_reducible refine grew_split ?_ | with_reducible refine grew_mk ?_ | with_reducible refine grew_plus ?_ | with_reducible refine grew_alloc ?_ | with_reducible refine grew_drew ?_ | (with_reducible refine grew_set ?_ (by first | exact Nat.le_refl _ | omega | (simp [go_sem]; done) | (simp [go_sem]; omega))))))) k4).mono ?_; rintro e w' ⟨⟨AU4, cU4, rfl, hu4, -⟩, gx4, rfl⟩; (try rw [plus_plus] at hu4); have U4 := hid hu4; clear hu4) | (go_at_call 19; refine (l_eqCon v.core l AU2 AU4 cU2 cU4 _ (VU23.out.grew (by (repeat (first | with_reducible exact grew_refl _ | with_reducible assumption | with_reducible refine grew_split ?_ | with_reducible refine grew_mk ?_ | with_reducible refine grew_plus ?_ | with_reducible refine grew_alloc ?_ | with_reducible refine grew_drew ?_ | (with_reducible refine grew_set ?_ (by first | exact Nat.le_refl _ | omega | (simp [go_sem]; done) | (simp [go_sem]; omega))))))) (U4.out.grew (by (repeat (first | with_reducible exact grew_refl _ | with_reducible assumption | with_reducible refine grew_split ?_ | with_reducible refine grew_mk ?_ | with_reducible refine grew_plus ?_ | with_reducible refine grew_alloc ?_ | with_reducible refine grew_drew ?_ | (with_reducible refine grew_set ?_ (by first | exact Nat.le_refl _ | omega | (simp [go_sem]; done) | (simp [go_sem]; omega)))))))).mono ?_; rintro e w' ⟨rfl, gxf, rfl⟩))
  go_wp2_with fail
  clear hx0 hx1 hx2 hx3 hx4 hx5 hx6 hx7 hx8 hx9
  clear hq0 hq1 hq2 hq3 hq4 hq5 hq6 hq7 hq8 hq9
  clear KEEP hlt2 hlt3
  refine (l_markConsole W1.heap.size ⟨v.core, AU2, cU2⟩ l.d l.p l.n 1 _ (U23.out.grew (by (repeat (first | with_reducible exact grew_refl _ | with_reducible assumption | with_reducible refine grew_split ?_ | with_reducible refine grew_mk ?_ | with_reducible refine grew_plus ?_ | with_reducible refine grew_alloc ?_ | with_reducible refine grew_drew ?_ | (with_reducible refine grew_set ?_ (by first | exact Nat.le_refl _ | omega | (simp [go_sem]; done) | (simp [go_sem]; omega))))))) (by simp only; omega) (by omega) (by omega)).mono ?_
  have hg31 := HG31.out
  rintro e W4 ⟨rfl, -, hG⟩
  have hR2 := U2.out.row
  have hn3 := HN3.out
  have hg4 : ∃ g, W4 = plus W1 g := grew_grown (w0 := W1) (by (repeat (first | with_reducible exact grew_refl _ | with_reducible assumption | with_reducible refine grew_split ?_ | with_reducible refine grew_mk ?_ | with_reducible refine grew_plus ?_ | with_reducible refine grew_alloc ?_ | with_reducible refine grew_drew ?_ | (with_reducible refine grew_set ?_ (by first | exact Nat.le_refl _ | omega | (simp [go_sem]; done) | (simp [go_sem]; omega)))))) hG (fun k hk => (hR2 k hk).1)
  have hB34 := (blk_grew HB3.out (by (repeat (first | with_reducible exact grew_refl _ | with_reducible assumption | with_reducible refine grew_split ?_ | with_reducible refine grew_mk ?_ | with_reducible refine grew_plus ?_ | with_reducible refine grew_alloc ?_ | with_reducible refine grew_drew ?_ | (with_reducible refine grew_set ?_ (by first | exact Nat.le_refl _ | omega | (simp [go_sem]; done) | (simp [go_sem]; omega))))))).grown hG (fun e => by have h1 := (hR2 _ e.symm).2; omega)
  have hO34 := (O3.out.grew (by (repeat (first | with_reducible exact grew_refl _ | with_reducible assumption | with_reducible refine grew_split ?_ | with_reducible refine grew_mk ?_ | with_reducible refine grew_plus ?_ | with_reducible refine grew_alloc ?_ | with_reducible refine grew_drew ?_ | (with_reducible refine grew_set ?_ (by first | exact Nat.le_refl _ | omega | (simp [go_sem]; done) | (simp [go_sem]; omega))))))).kept hG (fun k hk => (hR2 k hk).2)
  have HB34 := hid hB34
  have O34 := hid hO34
  have HG4 := hid hg4
  have HB14 := hid (blk_grew HB1.out hg4)
  have V14 := hid (V1.out.grew hg4)
  have V34 := hid (DayV.At.mk (v := ⟨D, A3, c3⟩) hO34.sl (by unfold maxLen; simp only; omega))
  have hlt1 := HB34.out.lt
  have hlt2 := HB14.out.lt
  clear hg31 hG hg4 hB34 hO34 hR2 hn3
  (have hr0 := HB34.out.cell 0; have hr1 := HB34.out.cell 1; have hr2 := HB34.out.cell 2; have hr3 := HB34.out.cell 3; have hr4 := HB34.out.cell 4; have hr5 := HB34.out.cell 5; have hr6 := HB34.out.cell 6; have hr7 := HB34.out.cell 7; have hr8 := HB34.out.cell 8; have hr9 := HB34.out.cell 9; simp [go_sem] at hr0 hr1 hr2 hr3 hr4 hr5 hr6 hr7 hr8 hr9)
  (have ho0 := HB14.out.cell 0; have ho1 := HB14.out.cell 1; have ho2 := HB14.out.cell 2; have ho3 := HB14.out.cell 3; have ho4 := HB14.out.cell 4; have ho5 := HB14.out.cell 5; have ho6 := HB14.out.cell 6; have ho7 := HB14.out.cell 7; have ho8 := HB14.out.cell 8; have ho9 := HB14.out.cell 9; simp [go_sem] at ho0 ho1 ho2 ho3 ho4 ho5 ho6 ho7 ho8 ho9)
  go_wp2_with fail
  refine (l_eqCon D m A3 A1 c3 c1 _ (V34.out.grew (by (repeat (first | with_reducible exact grew_refl _ | with_reducible assumption | with_reducible refine grew_split ?_ | with_reducible refine grew_mk ?_ | with_reducible refine grew_plus ?_ | with_reducible refine grew_alloc ?_ | with_reducible refine grew_drew ?_ | (with_reducible refine grew_set ?_ (by first | exact Nat.le_refl _ | omega | (simp [go_sem]; done) | (simp [go_sem]; omega))))))) (V14.out.grew (by (repeat (first | with_reducible exact grew_refl _ | with_reducible assumption | with_reducible refine grew_split ?_ | with_reducible refine grew_mk ?_ | with_reducible refine grew_plus ?_ | with_reducible refine grew_alloc ?_ | with_reducible refine grew_drew ?_ | (with_reducible refine grew_set ?_ (by first | exact Nat.le_refl _ | omega | (simp [go_sem]; done) | (simp [go_sem]; omega)))))))).mono ?_
  rintro e w' ⟨rfl, gxh, rfl⟩
  go_wp2_with fail
  refine (l_markConsole W2.heap.size ⟨D, A3, c3⟩ m.d m.p m.n 1 _ (O34.out.grew (by (repeat (first | with_reducible exact grew_refl _ | with_reducible assumption | with_reducible refine grew_split ?_ | with_reducible refine grew_mk ?_ | with_reducible refine grew_plus ?_ | with_reducible refine grew_alloc ?_ | with_reducible refine grew_drew ?_ | (with_reducible refine grew_set ?_ (by first | exact Nat.le_refl _ | omega | (simp [go_sem]; done) | (simp [go_sem]; omega))))))) (by simp only; omega) (by omega) (by omega)).mono ?_
  rintro e W5 ⟨rfl, hM, hG⟩
  have hR2 := O3.out.row
  have hg21 := (below_of_grew HG2.out).size
  have hg5 : ∃ g, W5 = plus W1 g := grew_grown (w0 := W1) (by have := HG4.out; (repeat (first | with_reducible exact grew_refl _ | with_reducible assumption | with_reducible refine grew_split ?_ | with_reducible refine grew_mk ?_ | with_reducible refine grew_plus ?_ | with_reducible refine grew_alloc ?_ | with_reducible refine grew_drew ?_ | (with_reducible refine grew_set ?_ (by first | exact Nat.le_refl _ | omega | (simp [go_sem]; done) | (simp [go_sem]; omega)))))) hG (fun k hk => Nat.le_trans hg21 (hR2 k hk).1)
  have hB35 := (blk_grew HB34.out (by (repeat (first | with_reducible exact grew_refl _ | with_reducible assumption | with_reducible refine grew_split ?_ | with_reducible refine grew_mk ?_ | with_reducible refine grew_plus ?_ | with_reducible refine grew_alloc ?_ | with_reducible refine grew_drew ?_ | (with_reducible refine grew_set ?_ (by first | exact Nat.le_refl _ | omega | (simp [go_sem]; done) | (simp [go_sem]; omega))))))).grown hG (fun e => HR3.out _ e.symm rfl)
  have HB35 := hid hB35
  have HM := hid hM
  have HG5 := hid hg5
  have hg50 : ∃ g, W5 = plus w g := grew_two' HG1.out hg5
  have HB15 := hid (blk_grew HB1.out hg5)
  have HBA5 := hid (blk_grew HA1.out hg5)
  have V15 := hid (V1.out.grew hg5)
  have HV5 := hid (HV.out.grew hg50)
  have HE5 := hid (HE.out.grew hg50)
  have HY5 := hid (HY.out.grew hg50)
  have HG50 := hid hg50
  have hlt3 := HB35.out.lt
  have hlt4 := HBA5.out.lt
  clear hr0 hr1 hr2 hr3 hr4 hr5 hr6 hr7 hr8 hr9
  clear ho0 ho1 ho2 ho3 ho4 ho5 ho6 ho7 ho8 ho9
  clear hlt1 hlt2 hG hg5 hB35 hM hR2 hg21 hg50
  (have hr0 := HB35.out.cell 0; have hr1 := HB35.out.cell 1; have hr2 := HB35.out.cell 2; have hr3 := HB35.out.cell 3; have hr4 := HB35.out.cell 4; have hr5 := HB35.out.cell 5; have hr6 := HB35.out.cell 6; have hr7 := HB35.out.cell 7; have hr8 := HB35.out.cell 8; have hr9 := HB35.out.cell 9; simp [go_sem] at hr0 hr1 hr2 hr3 hr4 hr5 hr6 hr7 hr8 hr9)
  (have hq0 := HBA5.out.cell 0; have hq1 := HBA5.out.cell 1; have hq2 := HBA5.out.cell 2; have hq3 := HBA5.out.cell 3; have hq4 := HBA5.out.cell 4; have hq5 := HBA5.out.cell 5; have hq6 := HBA5.out.cell 6; have hq7 := HBA5.out.cell 7; have hq8 := HBA5.out.cell 8; have hq9 := HBA5.out.cell 9; simp [go_sem] at hq0 hq1 hq2 hq3 hq4 hq5 hq6 hq7 hq8 hq9)
  go_wp2_with fail
  refine (l_heldConsole ⟨D, A3, c3⟩ m.d m.p m.n 1 _ (HM.out.sl.grew (by (repeat (first | with_reducible exact grew_refl _ | with_reducible assumption | with_reducible refine grew_split ?_ | with_reducible refine grew_mk ?_ | with_reducible refine grew_plus ?_ | with_reducible refine grew_alloc ?_ | with_reducible refine grew_drew ?_ | (with_reducible refine grew_set ?_ (by first | exact Nat.le_refl _ | omega | (simp [go_sem]; done) | (simp [go_sem]; omega))))))) (by simp only; omega) (by omega) (by omega)).mono ?_
  (rintro e w' ⟨rfl, gx, rfl⟩)
  go_wp2_with fail
  clear hq0 hq1 hq2 hq3 hq4 hq5 hq6 hq7 hq8 hq9
  refine (l_toConsole v l _ (HV5.out.grew (by (repeat (first | with_reducible exact grew_refl _ | with_reducible assumption | with_reducible refine grew_split ?_ | with_reducible refine grew_mk ?_ | with_reducible refine grew_plus ?_ | with_reducible refine grew_alloc ?_ | with_reducible refine grew_drew ?_ | (with_reducible refine grew_set ?_ (by first | exact Nat.le_refl _ | omega | (simp [go_sem]; done) | (simp [go_sem]; omega))))))) k4).mono ?_
  rintro e w' ⟨⟨A6, c6, rfl, -, ho6⟩, gx6, rfl⟩
  (try rw [plus_plus] at ho6)
  have U6 := hid ho6
  clear ho6
  go_wp2_with fail
  refine (i_ExecuteCommand ⟨v.core, A6, c6⟩ l line _ U6.out.sl k4 (by omega) (by omega) (by omega) (HE5.out.grew (by (repeat (first | with_reducible exact grew_refl _ | with_reducible assumption | with_reducible refine grew_split ?_ | with_reducible refine grew_mk ?_ | with_reducible refine grew_plus ?_ | with_reducible refine grew_alloc ?_ | with_reducible refine grew_drew ?_ | (with_reducible refine grew_set ?_ (by first | exact Nat.le_refl _ | omega | (simp [go_sem]; done) | (simp [go_sem]; omega))))))) (HY5.out.grew (by (repeat (first | with_reducible exact grew_refl _ | with_reducible assumption | with_reducible refine grew_split ?_ | with_reducible refine grew_mk ?_ | with_reducible refine grew_plus ?_ | with_reducible refine grew_alloc ?_ | with_reducible refine grew_drew ?_ | (with_reducible refine grew_set ?_ (by first | exact Nat.le_refl _ | omega | (simp [go_sem]; done) | (simp [go_sem]; omega)))))))).mono ?_
  rw [HP.out]
  rintro e w' ⟨⟨A7, c7, rfl, hO7⟩, g7, rfl⟩
  (try rw [plus_plus] at hO7)
  have V7 := hid (DayV.At.mk (v := ⟨D, A7, c7⟩) hO7.sl (by unfold maxLen; simp only; omega))
  clear hO7
  have hlt5 := HB15.out.lt
  (have ho0 := HB15.out.cell 0; have ho1 := HB15.out.cell 1; have ho2 := HB15.out.cell 2; have ho3 := HB15.out.cell 3; have ho4 := HB15.out.cell 4; have ho5 := HB15.out.cell 5; have ho6 := HB15.out.cell 6; have ho7 := HB15.out.cell 7; have ho8 := HB15.out.cell 8; have ho9 := HB15.out.cell 9; simp [go_sem] at ho0 ho1 ho2 ho3 ho4 ho5 ho6 ho7 ho8 ho9)
  go_wp2_with fail
  refine (l_eqCon D m A7 A1 c7 c1 _ (V7.out.grew (by (repeat (first | with_reducible exact grew_refl _ | with_reducible assumption | with_reducible refine grew_split ?_ | with_reducible refine grew_mk ?_ | with_reducible refine grew_plus ?_ | with_reducible refine grew_alloc ?_ | with_reducible refine grew_drew ?_ | (with_reducible refine grew_set ?_ (by first | exact Nat.le_refl _ | omega | (simp [go_sem]; done) | (simp [go_sem]; omega))))))) (V15.out.grew (by (repeat (first | with_reducible exact grew_refl _ | with_reducible assumption | with_reducible refine grew_split ?_ | with_reducible refine grew_mk ?_ | with_reducible refine grew_plus ?_ | with_reducible refine grew_alloc ?_ | with_reducible refine grew_drew ?_ | (with_reducible refine grew_set ?_ (by first | exact Nat.le_refl _ | omega | (simp [go_sem]; done) | (simp [go_sem]; omega)))))))).mono ?_
  rintro e w' ⟨rfl, gx8, rfl⟩
  go_wp2_with fail
  refine (l_heldConsole ⟨D, A3, c3⟩ m.d m.p m.n 1 _ (HM.out.sl.grew (by (repeat (first | with_reducible exact grew_refl _ | with_reducible assumption | with_reducible refine grew_split ?_ | with_reducible refine grew_mk ?_ | with_reducible refine grew_plus ?_ | with_reducible refine grew_alloc ?_ | with_reducible refine grew_drew ?_ | (with_reducible refine grew_set ?_ (by first | exact Nat.le_refl _ | omega | (simp [go_sem]; done) | (simp [go_sem]; omega))))))) (by simp only; omega) (by omega) (by omega)).mono ?_
  (rintro e w' ⟨rfl, gx, rfl⟩)
  go_wp2_with fail
  go_ret
  have hg50 := HG50.out
  exact ⟨rfl, by (repeat (first | with_reducible exact grew_refl _ | with_reducible assumption | with_reducible refine grew_split ?_ | with_reducible refine grew_mk ?_ | with_reducible refine grew_plus ?_ | with_reducible refine grew_alloc ?_ | with_reducible refine grew_drew ?_ | (with_reducible refine grew_set ?_ (by first | exact Nat.le_refl _ | omega | (simp [go_sem]; done) | (simp [go_sem]; omega)))))⟩
end Go.Proofs.YtonbgaipmlgndaaGreatDoor
