import Derived.Test.YtonbgaipmlgndaaGreatDoorP12
import Derived.Test.YtonbgaipmlgndaaGreatDoorP34
import Derived.Test.YtonbgaipmlgndaaGreatDoorP28
import Derived.Deep.RegionWith
import Derived.Deep.RegionHeld3
import Derived.Deep.DrawnRows
/- What the law FnExactRunScript computes. -/
namespace Go.Proofs.YtonbgaipmlgndaaGreatDoor
open Go.ChangeShapes Go.WideShapes Go.ChangeAt Go.RowKit Go.Deep Go.Joins
open Go.ChangeMaps (open_string shut_string)

set_option maxHeartbeats 8000000 in
set_option maxRecDepth 100000 in
theorem l_FnExactRunScript (v : DayV) (l : LogR) (t : ByteArray) (w : World) (hv : v.At w) (h1 : l.d.size ≤ maxLen) (h2 : l.p.size ≤ maxLen) (hE : Env w) (hY : Syn w) :
    Calls Tryz.prog 5 #[ConV.val ⟨v, l⟩, .string t] w fun e' w' => e' = .returned (.bool true) ∧ ∃ g, w' = plus w g := by
  have HV := hid hv
  have HE := hid hE
  have HY := hid hY
  clear hv hE hY
  by_cases hbig : 1048576 < (t.size : Int)
  · go_enter Tryz.func5, Tryz.ntmps5
    go_wp2_with fail
    go_ret
    exact ⟨rfl, by (repeat (first | with_reducible exact grew_refl _ | with_reducible assumption | with_reducible refine grew_split ?_ | with_reducible refine grew_mk ?_ | with_reducible refine grew_plus ?_ | with_reducible refine grew_alloc ?_ | with_reducible refine grew_drew ?_ | (with_reducible refine grew_set ?_ (by first | exact Nat.le_refl _ | omega | (simp [go_sem]; done) | (simp [go_sem]; omega)))))⟩
  obtain ⟨R, o, hp⟩ : ∃ R o, scrF v.core l t = (R, o) := ⟨_, _, rfl⟩
  have hR := scrF_len v.core l t
  rw [hp] at hR
  simp only at hR
  have HP := hid hp
  clear hp
  go_enter Tryz.func5, Tryz.ntmps5
  go_wp2_with fail
  (refine (l_szConsole v l _ _ (HV.out.grew (by (repeat (first | with_reducible exact grew_refl _ | with_reducible assumption | with_reducible refine grew_split ?_ | with_reducible refine grew_mk ?_ | with_reducible refine grew_plus ?_ | with_reducible refine grew_alloc ?_ | with_reducible refine grew_drew ?_ | (with_reducible refine grew_set ?_ (by first | exact Nat.le_refl _ | omega | (simp [go_sem]; done) | (simp [go_sem]; omega))))))) h1 h2 (by omega) (by omega)).mono ?_; rintro e w' ⟨⟨kz, rfl, k1, k2, k3⟩, gx, rfl⟩)
  by_cases hneg : kz < 0
  · go_wp2_with fail
    go_ret
    exact ⟨rfl, by (repeat (first | with_reducible exact grew_refl _ | with_reducible assumption | with_reducible refine grew_split ?_ | with_reducible refine grew_mk ?_ | with_reducible refine grew_plus ?_ | with_reducible refine grew_alloc ?_ | with_reducible refine grew_drew ?_ | (with_reducible refine grew_set ?_ (by first | exact Nat.le_refl _ | omega | (simp [go_sem]; done) | (simp [go_sem]; omega)))))⟩
  obtain ⟨k4, k5, k6⟩ := k3 (by omega)
  clear k3
  go_wp2_with fail
  (refine (l_toConsole v l _ (HV.out.grew (by (repeat (first | with_reducible exact grew_refl _ | with_reducible assumption | with_reducible refine grew_split ?_ | with_reducible refine grew_mk ?_ | with_reducible refine grew_plus ?_ | with_reducible refine grew_alloc ?_ | with_reducible refine grew_drew ?_ | (with_reducible refine grew_set ?_ (by first | exact Nat.le_refl _ | omega | (simp [go_sem]; done) | (simp [go_sem]; omega))))))) k4).mono ?_; rintro e w' ⟨⟨AU1, cU1, rfl, huU1, hoU1⟩, gxU1, rfl⟩; (try rw [plus_plus] at huU1 hoU1); have U1 := hid huU1; have U1o := hid hoU1; clear huU1 hoU1; go_wp2_with fail)
  refine (s_RunScript ⟨v.core, _, _⟩ l t _ U1.out (by omega) (by omega) (by omega) (HE.out.grew (by (repeat (first | with_reducible exact grew_refl _ | with_reducible assumption | with_reducible refine grew_split ?_ | with_reducible refine grew_mk ?_ | with_reducible refine grew_plus ?_ | with_reducible refine grew_alloc ?_ | with_reducible refine grew_drew ?_ | (with_reducible refine grew_set ?_ (by first | exact Nat.le_refl _ | omega | (simp [go_sem]; done) | (simp [go_sem]; omega)))))))).mono ?_
  rw [HP.out]
  rintro e w' ⟨⟨A1, c1, rfl, hO1⟩, g1, rfl⟩
  (try rw [plus_plus] at hO1)
  have O1 := hid hO1
  clear hO1
  go_wp2_with fail
  refine opq_calls (fun W1 => Blk W1 w.heap.size 37 #[.int .i64 (v.core).minute, .int .i64 (v.core).state, .slice v.A (v.core).lines.length v.c, .int .i64 (v.core).line, .int .i64 (v.core).since, .int .i64 (v.core).cast, .int .i64 (v.core).fuel, .string (l).d, .string (l).p, .int .i64 (l).n] ∧ Sl W1 1 strRow A1 R ∧ ∃ g, W1 = plus w g) ⟨blk_grew (blk_new rfl) (by (repeat (first | with_reducible exact grew_refl _ | with_reducible assumption | with_reducible refine grew_split ?_ | with_reducible refine grew_mk ?_ | with_reducible refine grew_plus ?_ | with_reducible refine grew_alloc ?_ | with_reducible refine grew_drew ?_ | (with_reducible refine grew_set ?_ (by first | exact Nat.le_refl _ | omega | (simp [go_sem]; done) | (simp [go_sem]; omega)))))), O1.out.sl.grew (by (repeat (first | with_reducible exact grew_refl _ | with_reducible assumption | with_reducible refine grew_split ?_ | with_reducible refine grew_mk ?_ | with_reducible refine grew_plus ?_ | with_reducible refine grew_alloc ?_ | with_reducible refine grew_drew ?_ | (with_reducible refine grew_set ?_ (by first | exact Nat.le_refl _ | omega | (simp [go_sem]; done) | (simp [go_sem]; omega)))))), by (repeat (first | with_reducible exact grew_refl _ | with_reducible assumption | with_reducible refine grew_split ?_ | with_reducible refine grew_mk ?_ | with_reducible refine grew_plus ?_ | with_reducible refine grew_alloc ?_ | with_reducible refine grew_drew ?_ | (with_reducible refine grew_set ?_ (by first | exact Nat.le_refl _ | omega | (simp [go_sem]; done) | (simp [go_sem]; omega)))))⟩ ?_
  clear O1 U1 U1o
  rintro W1 ⟨hA, hV1, hg1⟩
  have HA1 := hid hA
  have S1 := hid hV1
  have HG1 := hid hg1
  clear hA hV1 hg1
  refine (l_toConsole v l _ (HV.out.grew HG1.out) k4).mono ?_
  rintro e w' ⟨⟨AU2, cU2, rfl, -, ho2⟩, gx2, rfl⟩
  have U2o := hid ho2
  clear ho2
  go_wp2_with fail
  generalize hb2 : W1.heap.size + gx2.objs.size = b2
  refine opq_calls (fun W2 => Blk W2 b2 43 #[.int .i64 (v.core).minute, .int .i64 (v.core).state, .slice AU2 (v.core).lines.length cU2, .int .i64 (v.core).line, .int .i64 (v.core).since, .int .i64 (v.core).cast, .int .i64 (v.core).fuel, .string (l).d, .string (l).p, .int .i64 (l).n] ∧ OwnF W1.heap.size 102 2 LineR.row W2 AU2 v.core.lines ∧ ∃ g, W2 = plus W1 g) ⟨blk_new (by subst hb2; simp [go_sem]), U2o.out.f.grew (by (repeat (first | with_reducible exact grew_refl _ | with_reducible assumption | with_reducible refine grew_split ?_ | with_reducible refine grew_mk ?_ | with_reducible refine grew_plus ?_ | with_reducible refine grew_alloc ?_ | with_reducible refine grew_drew ?_ | (with_reducible refine grew_set ?_ (by first | exact Nat.le_refl _ | omega | (simp [go_sem]; done) | (simp [go_sem]; omega)))))), by (repeat (first | with_reducible exact grew_refl _ | with_reducible assumption | with_reducible refine grew_split ?_ | with_reducible refine grew_mk ?_ | with_reducible refine grew_plus ?_ | with_reducible refine grew_alloc ?_ | with_reducible refine grew_drew ?_ | (with_reducible refine grew_set ?_ (by first | exact Nat.le_refl _ | omega | (simp [go_sem]; done) | (simp [go_sem]; omega)))))⟩ ?_
  clear hb2 U2o
  rintro W2 ⟨hB2, hU2, hg2⟩
  have HB2 := hid hB2
  have U2 := hid hU2
  have HG2 := hid hg2
  have hg20 : ∃ g, W2 = plus w g := grew_two' HG1.out (by obtain ⟨_, rfl⟩ := hg2; (repeat (first | with_reducible exact grew_refl _ | with_reducible assumption | with_reducible refine grew_split ?_ | with_reducible refine grew_mk ?_ | with_reducible refine grew_plus ?_ | with_reducible refine grew_alloc ?_ | with_reducible refine grew_drew ?_ | (with_reducible refine grew_set ?_ (by first | exact Nat.le_refl _ | omega | (simp [go_sem]; done) | (simp [go_sem]; omega))))))
  have HE2 := hid (HE.out.grew hg20)
  have HY2 := hid (HY.out.grew hg20)
  clear hB2 hU2 hg2 hg20
  refine (i_RunScript ⟨v.core, AU2, cU2⟩ l t _ (DayV.At.mk (v := ⟨v.core, AU2, cU2⟩) U2.out.sl (by unfold maxLen; simp only; omega)) (by omega) (by omega) (by omega) HE2.out HY2.out).mono ?_
  rw [HP.out]
  rintro e w' ⟨⟨A3, c3, rfl, hO3⟩, g3, rfl⟩
  have O3 := hid hO3
  clear hO3
  go_wp2_with fail
  refine opq_calls (fun W3 => OwnF W2.heap.size 9 1 strRow W3 A3 R ∧ ∃ g, W3 = plus W2 g) ⟨O3.out.grew (by (repeat (first | with_reducible exact grew_refl _ | with_reducible assumption | with_reducible refine grew_split ?_ | with_reducible refine grew_mk ?_ | with_reducible refine grew_plus ?_ | with_reducible refine grew_alloc ?_ | with_reducible refine grew_drew ?_ | (with_reducible refine grew_set ?_ (by first | exact Nat.le_refl _ | omega | (simp [go_sem]; done) | (simp [go_sem]; omega)))))), by (repeat (first | with_reducible exact grew_refl _ | with_reducible assumption | with_reducible refine grew_split ?_ | with_reducible refine grew_mk ?_ | with_reducible refine grew_plus ?_ | with_reducible refine grew_alloc ?_ | with_reducible refine grew_drew ?_ | (with_reducible refine grew_set ?_ (by first | exact Nat.le_refl _ | omega | (simp [go_sem]; done) | (simp [go_sem]; omega)))))⟩ ?_
  clear O3
  rintro W3 ⟨hO3, hg3⟩
  have O3 := hid hO3
  have HG3 := hid hg3
  have hg31 : ∃ g, W3 = plus W1 g := grew_two' HG2.out (by obtain ⟨_, rfl⟩ := hg3; (repeat (first | with_reducible exact grew_refl _ | with_reducible assumption | with_reducible refine grew_split ?_ | with_reducible refine grew_mk ?_ | with_reducible refine grew_plus ?_ | with_reducible refine grew_alloc ?_ | with_reducible refine grew_drew ?_ | (with_reducible refine grew_set ?_ (by first | exact Nat.le_refl _ | omega | (simp [go_sem]; done) | (simp [go_sem]; omega))))))
  have HG31 := hid hg31
  have hg30 : ∃ g, W3 = plus w g := grew_two' HG1.out hg31
  have HBA3 := hid (blk_grew HA1.out hg31)
  have HB23 := hid (blk_grew HB2.out hg3)
  have S13 := hid (S1.out.grew hg31)
  have U23 := hid (U2.out.grew hg3)
  have VU23 := hid (DayV.At.mk (v := ⟨v.core, AU2, cU2⟩) U23.out.sl (by unfold maxLen; simp only; omega))
  have HV3 := hid (HV.out.grew hg30)
  clear hO3 hg3 hg31 hg30
  refine (l_eqStringS R A3 A1 c3 c1 _ O3.out.sl S13.out (by unfold maxLen; omega)).mono ?_
  rintro e w' ⟨rfl, ge1, rfl⟩
  have e1 : (o != o) = false := by simp
  go_wp2_with fail
  have hlt2 := HB23.out.lt
  have hlt3 := HBA3.out.lt
  (have hx0 := HB23.out.cell 0; have hx1 := HB23.out.cell 1; have hx2 := HB23.out.cell 2; have hx3 := HB23.out.cell 3; have hx4 := HB23.out.cell 4; have hx5 := HB23.out.cell 5; have hx6 := HB23.out.cell 6; have hx7 := HB23.out.cell 7; have hx8 := HB23.out.cell 8; have hx9 := HB23.out.cell 9; simp [go_sem] at hx0 hx1 hx2 hx3 hx4 hx5 hx6 hx7 hx8 hx9)
  (have hq0 := HBA3.out.cell 0; have hq1 := HBA3.out.cell 1; have hq2 := HBA3.out.cell 2; have hq3 := HBA3.out.cell 3; have hq4 := HBA3.out.cell 4; have hq5 := HBA3.out.cell 5; have hq6 := HBA3.out.cell 6; have hq7 := HBA3.out.cell 7; have hq8 := HBA3.out.cell 8; have hq9 := HBA3.out.cell 9; simp [go_sem] at hq0 hq1 hq2 hq3 hq4 hq5 hq6 hq7 hq8 hq9)
  have KEEP : Hid (∀ W : World, (∃ g, W = plus W3 g) → ((fun w' => (w'.cell? ⟨b2, 0, none⟩ = some (.int .i64 (v.core).minute) ∧ w'.cell? ⟨b2, 1, none⟩ = some (.int .i64 (v.core).state) ∧ w'.cell? ⟨b2, 2, none⟩ = some (.slice AU2 (v.core).lines.length cU2) ∧ w'.cell? ⟨b2, 3, none⟩ = some (.int .i64 (v.core).line) ∧ w'.cell? ⟨b2, 4, none⟩ = some (.int .i64 (v.core).since) ∧ w'.cell? ⟨b2, 5, none⟩ = some (.int .i64 (v.core).cast) ∧ w'.cell? ⟨b2, 6, none⟩ = some (.int .i64 (v.core).fuel) ∧ w'.cell? ⟨b2, 7, none⟩ = some (.string (l).d) ∧ w'.cell? ⟨b2, 8, none⟩ = some (.string (l).p) ∧ w'.cell? ⟨b2, 9, none⟩ = some (.int .i64 (l).n)) ∧ w'.cell? ⟨w.heap.size, 0, none⟩ = some (.int .i64 (v.core).minute) ∧ w'.cell? ⟨w.heap.size, 1, none⟩ = some (.int .i64 (v.core).state) ∧ w'.cell? ⟨w.heap.size, 2, none⟩ = some (.slice v.A (v.core).lines.length v.c) ∧ w'.cell? ⟨w.heap.size, 3, none⟩ = some (.int .i64 (v.core).line) ∧ w'.cell? ⟨w.heap.size, 4, none⟩ = some (.int .i64 (v.core).since) ∧ w'.cell? ⟨w.heap.size, 5, none⟩ = some (.int .i64 (v.core).cast) ∧ w'.cell? ⟨w.heap.size, 6, none⟩ = some (.int .i64 (v.core).fuel) ∧ w'.cell? ⟨w.heap.size, 7, none⟩ = some (.string (l).d) ∧ w'.cell? ⟨w.heap.size, 8, none⟩ = some (.string (l).p) ∧ w'.cell? ⟨w.heap.size, 9, none⟩ = some (.int .i64 (l).n))) W) := hid (by
    rintro W ⟨g, rfl⟩
    simp only [cell?_plus _ _ hlt2, cell?_plus _ _ hlt3, hx0, hx1, hx2, hx3, hx4, hx5, hx6, hx7, hx8, hx9, hq0, hq1, hq2, hq3, hq4, hq5, hq6, hq7, hq8, hq9, and_self])
  go_region_held3 (fun w' => (w'.cell? ⟨b2, 0, none⟩ = some (.int .i64 (v.core).minute) ∧ w'.cell? ⟨b2, 1, none⟩ = some (.int .i64 (v.core).state) ∧ w'.cell? ⟨b2, 2, none⟩ = some (.slice AU2 (v.core).lines.length cU2) ∧ w'.cell? ⟨b2, 3, none⟩ = some (.int .i64 (v.core).line) ∧ w'.cell? ⟨b2, 4, none⟩ = some (.int .i64 (v.core).since) ∧ w'.cell? ⟨b2, 5, none⟩ = some (.int .i64 (v.core).cast) ∧ w'.cell? ⟨b2, 6, none⟩ = some (.int .i64 (v.core).fuel) ∧ w'.cell? ⟨b2, 7, none⟩ = some (.string (l).d) ∧ w'.cell? ⟨b2, 8, none⟩ = some (.string (l).p) ∧ w'.cell? ⟨b2, 9, none⟩ = some (.int .i64 (l).n)) ∧ w'.cell? ⟨w.heap.size, 0, none⟩ = some (.int .i64 (v.core).minute) ∧ w'.cell? ⟨w.heap.size, 1, none⟩ = some (.int .i64 (v.core).state) ∧ w'.cell? ⟨w.heap.size, 2, none⟩ = some (.slice v.A (v.core).lines.length v.c) ∧ w'.cell? ⟨w.heap.size, 3, none⟩ = some (.int .i64 (v.core).line) ∧ w'.cell? ⟨w.heap.size, 4, none⟩ = some (.int .i64 (v.core).since) ∧ w'.cell? ⟨w.heap.size, 5, none⟩ = some (.int .i64 (v.core).cast) ∧ w'.cell? ⟨w.heap.size, 6, none⟩ = some (.int .i64 (v.core).fuel) ∧ w'.cell? ⟨w.heap.size, 7, none⟩ = some (.string (l).d) ∧ w'.cell? ⟨w.heap.size, 8, none⟩ = some (.string (l).p) ∧ w'.cell? ⟨w.heap.size, 9, none⟩ = some (.int .i64 (l).n)) (exact KEEP.out _ (by (repeat (first | with_reducible exact grew_refl _ | with_reducible assumption | with_reducible refine grew_split ?_ | with_reducible refine grew_mk ?_ | with_reducible refine grew_plus ?_ | with_reducible refine grew_alloc ?_ | with_reducible refine grew_drew ?_ | (with_reducible refine grew_set ?_ (by first | exact Nat.le_refl _ | omega | (simp [go_sem]; done) | (simp [go_sem]; omega))))))) (first | (go_at_call 17; refine (l_toConsole v l _ (HV3.out.grew (by (repeat (first | with_reducible exact grew_refl _ | with_reducible assumption | with_reducible refine grew_split ?_ | with_reducible refine grew_mk ?_ | with_reducible refine grew_plus ?_ | with_reducible refine grew_alloc ?_ | with_reducible refine grew_drew ?_ | (with_reducible refine grew_set ?_ (by first | exact Nat.le_refl _ | omega | (simp [go_sem]; done) | (simp [go_sem]; omega))))))) k4).mono ?_; rintro e w' ⟨⟨AU4, cU4, rfl, hu4, -⟩, gx4, rfl⟩; (try rw [plus_plus] at hu4); have U4 := hid hu4; clear hu4) | (go_at_call 19; refine (l_eqCon v.core l AU2 AU4 cU2 cU4 _ (VU23.out.grew (by (repeat (first | with_reducible exact grew_refl _ | with_reducible assumption | with_reducible refine grew_split ?_ | with_reducible refine grew_mk ?_ | with_reducible refine grew_plus ?_ | with_reducible refine grew_alloc ?_ | with_reducible refine grew_drew ?_ | (with_reducible refine grew_set ?_ (by first | exact Nat.le_refl _ | omega | (simp [go_sem]; done) | (simp [go_sem]; omega))))))) (U4.out.grew (by (repeat (first | with_reducible exact grew_refl _ | with_reducible assumption | with_reducible refine grew_split ?_ | with_reducible refine grew_mk ?_ | with_reducible refine grew_plus ?_ | with_reducible refine grew_alloc ?_ | with_reducible refine grew_drew ?_ | (with_reducible refine grew_set ?_ (by first | exact Nat.le_refl _ | omega | (simp [go_sem]; done) | (simp [go_sem]; omega)))))))).mono ?_; rintro e w' ⟨rfl, gxf, rfl⟩))
  go_wp2_with fail
  clear hx0 hx1 hx2 hx3 hx4 hx5 hx6 hx7 hx8 hx9
  clear hq0 hq1 hq2 hq3 hq4 hq5 hq6 hq7 hq8 hq9
  clear KEEP hlt2 hlt3
  refine (l_markConsole W1.heap.size ⟨v.core, AU2, cU2⟩ l.d l.p l.n 1 _ (U23.out.grew (by (repeat (first | with_reducible exact grew_refl _ | with_reducible assumption | with_reducible refine grew_split ?_ | with_reducible refine grew_mk ?_ | with_reducible refine grew_plus ?_ | with_reducible refine grew_alloc ?_ | with_reducible refine grew_drew ?_ | (with_reducible refine grew_set ?_ (by first | exact Nat.le_refl _ | omega | (simp [go_sem]; done) | (simp [go_sem]; omega))))))) (by simp only; omega) (by omega) (by omega)).mono ?_
  have hg31 := HG31.out
  rintro e W4 ⟨rfl, -, hG⟩
  have hR2 := U2.out.row
  have hg4 : ∃ g, W4 = plus W1 g := grew_grown (w0 := W1) (by (repeat (first | with_reducible exact grew_refl _ | with_reducible assumption | with_reducible refine grew_split ?_ | with_reducible refine grew_mk ?_ | with_reducible refine grew_plus ?_ | with_reducible refine grew_alloc ?_ | with_reducible refine grew_drew ?_ | (with_reducible refine grew_set ?_ (by first | exact Nat.le_refl _ | omega | (simp [go_sem]; done) | (simp [go_sem]; omega)))))) hG (fun k hk => (hR2 k hk).1)
  have hO34 := (O3.out.grew (by (repeat (first | with_reducible exact grew_refl _ | with_reducible assumption | with_reducible refine grew_split ?_ | with_reducible refine grew_mk ?_ | with_reducible refine grew_plus ?_ | with_reducible refine grew_alloc ?_ | with_reducible refine grew_drew ?_ | (with_reducible refine grew_set ?_ (by first | exact Nat.le_refl _ | omega | (simp [go_sem]; done) | (simp [go_sem]; omega))))))).kept hG (fun k hk => (hR2 k hk).2)
  have O34 := hid hO34
  have HG4 := hid hg4
  have S14 := hid (S1.out.grew hg4)
  clear hg31 hG hg4 hO34 hR2
  go_wp2_with fail
  refine (l_eqStringS R A3 A1 c3 c1 _ (O34.out.sl.grew (by (repeat (first | with_reducible exact grew_refl _ | with_reducible assumption | with_reducible refine grew_split ?_ | with_reducible refine grew_mk ?_ | with_reducible refine grew_plus ?_ | with_reducible refine grew_alloc ?_ | with_reducible refine grew_drew ?_ | (with_reducible refine grew_set ?_ (by first | exact Nat.le_refl _ | omega | (simp [go_sem]; done) | (simp [go_sem]; omega))))))) (S14.out.grew (by (repeat (first | with_reducible exact grew_refl _ | with_reducible assumption | with_reducible refine grew_split ?_ | with_reducible refine grew_mk ?_ | with_reducible refine grew_plus ?_ | with_reducible refine grew_alloc ?_ | with_reducible refine grew_drew ?_ | (with_reducible refine grew_set ?_ (by first | exact Nat.le_refl _ | omega | (simp [go_sem]; done) | (simp [go_sem]; omega))))))) (by unfold maxLen; omega)).mono ?_
  rintro e w' ⟨rfl, gxh, rfl⟩
  go_wp2_with fail
  refine (l_markStringS W2.heap.size R A3 c3 1 _ (O34.out.grew (by (repeat (first | with_reducible exact grew_refl _ | with_reducible assumption | with_reducible refine grew_split ?_ | with_reducible refine grew_mk ?_ | with_reducible refine grew_plus ?_ | with_reducible refine grew_alloc ?_ | with_reducible refine grew_drew ?_ | (with_reducible refine grew_set ?_ (by first | exact Nat.le_refl _ | omega | (simp [go_sem]; done) | (simp [go_sem]; omega))))))) (by omega) (by omega) (by omega)).mono ?_
  rintro e W5 ⟨rfl, hM, hG⟩
  have hR2 := O3.out.row
  have hg21 := (below_of_grew HG2.out).size
  have hg5 : ∃ g, W5 = plus W1 g := grew_grown (w0 := W1) (by have := HG4.out; (repeat (first | with_reducible exact grew_refl _ | with_reducible assumption | with_reducible refine grew_split ?_ | with_reducible refine grew_mk ?_ | with_reducible refine grew_plus ?_ | with_reducible refine grew_alloc ?_ | with_reducible refine grew_drew ?_ | (with_reducible refine grew_set ?_ (by first | exact Nat.le_refl _ | omega | (simp [go_sem]; done) | (simp [go_sem]; omega)))))) hG (fun k hk => Nat.le_trans hg21 (hR2 k hk).1)
  have HM := hid hM
  have hg50 : ∃ g, W5 = plus w g := grew_two' HG1.out hg5
  have HBA5 := hid (blk_grew HA1.out hg5)
  have S15 := hid (S1.out.grew hg5)
  have HV5 := hid (HV.out.grew hg50)
  have HE5 := hid (HE.out.grew hg50)
  have HY5 := hid (HY.out.grew hg50)
  have HG50 := hid hg50
  have hlt4 := HBA5.out.lt
  clear hG hg5 hM hR2 hg21 hg50
  (have hq0 := HBA5.out.cell 0; have hq1 := HBA5.out.cell 1; have hq2 := HBA5.out.cell 2; have hq3 := HBA5.out.cell 3; have hq4 := HBA5.out.cell 4; have hq5 := HBA5.out.cell 5; have hq6 := HBA5.out.cell 6; have hq7 := HBA5.out.cell 7; have hq8 := HBA5.out.cell 8; have hq9 := HBA5.out.cell 9; simp [go_sem] at hq0 hq1 hq2 hq3 hq4 hq5 hq6 hq7 hq8 hq9)
  go_wp2_with fail
  refine (l_heldStringS R.length A3 c3 1 _ (HM.out.sl.grew (by (repeat (first | with_reducible exact grew_refl _ | with_reducible assumption | with_reducible refine grew_split ?_ | with_reducible refine grew_mk ?_ | with_reducible refine grew_plus ?_ | with_reducible refine grew_alloc ?_ | with_reducible refine grew_drew ?_ | (with_reducible refine grew_set ?_ (by first | exact Nat.le_refl _ | omega | (simp [go_sem]; done) | (simp [go_sem]; omega))))))) (by omega) (by omega) (by omega)).mono ?_
  (rintro e w' ⟨rfl, gx, rfl⟩)
  go_wp2_with fail
  clear hq0 hq1 hq2 hq3 hq4 hq5 hq6 hq7 hq8 hq9
  refine (l_toConsole v l _ (HV5.out.grew (by (repeat (first | with_reducible exact grew_refl _ | with_reducible assumption | with_reducible refine grew_split ?_ | with_reducible refine grew_mk ?_ | with_reducible refine grew_plus ?_ | with_reducible refine grew_alloc ?_ | with_reducible refine grew_drew ?_ | (with_reducible refine grew_set ?_ (by first | exact Nat.le_refl _ | omega | (simp [go_sem]; done) | (simp [go_sem]; omega))))))) k4).mono ?_
  rintro e w' ⟨⟨A6, c6, rfl, hv6, -⟩, gx6, rfl⟩
  (try rw [plus_plus] at hv6)
  have U6 := hid hv6
  clear hv6
  go_wp2_with fail
  refine (i_RunScript ⟨v.core, A6, c6⟩ l t _ U6.out (by omega) (by omega) (by omega) (HE5.out.grew (by (repeat (first | with_reducible exact grew_refl _ | with_reducible assumption | with_reducible refine grew_split ?_ | with_reducible refine grew_mk ?_ | with_reducible refine grew_plus ?_ | with_reducible refine grew_alloc ?_ | with_reducible refine grew_drew ?_ | (with_reducible refine grew_set ?_ (by first | exact Nat.le_refl _ | omega | (simp [go_sem]; done) | (simp [go_sem]; omega))))))) (HY5.out.grew (by (repeat (first | with_reducible exact grew_refl _ | with_reducible assumption | with_reducible refine grew_split ?_ | with_reducible refine grew_mk ?_ | with_reducible refine grew_plus ?_ | with_reducible refine grew_alloc ?_ | with_reducible refine grew_drew ?_ | (with_reducible refine grew_set ?_ (by first | exact Nat.le_refl _ | omega | (simp [go_sem]; done) | (simp [go_sem]; omega)))))))).mono ?_
  rw [HP.out]
  rintro e w' ⟨⟨A7, c7, rfl, hO7⟩, g7, rfl⟩
  (try rw [plus_plus] at hO7)
  have V7 := hid hO7.sl
  clear hO7
  go_wp2_with fail
  refine (l_eqStringS R A7 A1 c7 c1 _ (V7.out.grew (by (repeat (first | with_reducible exact grew_refl _ | with_reducible assumption | with_reducible refine grew_split ?_ | with_reducible refine grew_mk ?_ | with_reducible refine grew_plus ?_ | with_reducible refine grew_alloc ?_ | with_reducible refine grew_drew ?_ | (with_reducible refine grew_set ?_ (by first | exact Nat.le_refl _ | omega | (simp [go_sem]; done) | (simp [go_sem]; omega))))))) (S15.out.grew (by (repeat (first | with_reducible exact grew_refl _ | with_reducible assumption | with_reducible refine grew_split ?_ | with_reducible refine grew_mk ?_ | with_reducible refine grew_plus ?_ | with_reducible refine grew_alloc ?_ | with_reducible refine grew_drew ?_ | (with_reducible refine grew_set ?_ (by first | exact Nat.le_refl _ | omega | (simp [go_sem]; done) | (simp [go_sem]; omega))))))) (by unfold maxLen; omega)).mono ?_
  rintro e w' ⟨rfl, gx8, rfl⟩
  go_wp2_with fail
  refine (l_heldStringS R.length A3 c3 1 _ (HM.out.sl.grew (by (repeat (first | with_reducible exact grew_refl _ | with_reducible assumption | with_reducible refine grew_split ?_ | with_reducible refine grew_mk ?_ | with_reducible refine grew_plus ?_ | with_reducible refine grew_alloc ?_ | with_reducible refine grew_drew ?_ | (with_reducible refine grew_set ?_ (by first | exact Nat.le_refl _ | omega | (simp [go_sem]; done) | (simp [go_sem]; omega))))))) (by omega) (by omega) (by omega)).mono ?_
  (rintro e w' ⟨rfl, gx, rfl⟩)
  go_wp2_with fail
  go_ret
  have hg50 := HG50.out
  exact ⟨rfl, by (repeat (first | with_reducible exact grew_refl _ | with_reducible assumption | with_reducible refine grew_split ?_ | with_reducible refine grew_mk ?_ | with_reducible refine grew_plus ?_ | with_reducible refine grew_alloc ?_ | with_reducible refine grew_drew ?_ | (with_reducible refine grew_set ?_ (by first | exact Nat.le_refl _ | omega | (simp [go_sem]; done) | (simp [go_sem]; omega)))))⟩
end Go.Proofs.YtonbgaipmlgndaaGreatDoor
