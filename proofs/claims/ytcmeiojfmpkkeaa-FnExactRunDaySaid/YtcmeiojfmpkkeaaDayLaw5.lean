/- The law FnExactRunDay. No condition. -/
import Derived.Test.YtcmeiojfmpkkeaaRows
import Derived.Test.YtcmeiojfmpkkeaaD18
import Derived.Test.YtcmeiojfmpkkeaaD19
namespace Go.Proofs.Ytcmeiojfmpkkeaa
open Go.ChangeShapes Go.WideShapes Go.ChangeAt Go.RowKit Go.Deep Go.Joins
open Go.ChangeMaps (open_string shut_string)

attribute [local go_sem ↓] Go.wp_at_zero Go.wp_at_succ
theorem runF_len {v : DayC} {l : List StepR} : (runF v l).1.lines.length ≤ 8 := by
  unfold runF
  split
  · rename_i h
    have := DayC.bounds (runTo_ok h.1 l l.length (Nat.le_refl _)).1
    simp only
    omega
  · simp [noDay]
theorem calls_opaq {P : Program} {f : FuncId} {args : Array Value} {W : World} {R : Ending → World → Prop} (F : World → Prop) (hF : F W) (h : ∀ wr, F wr → Calls P f args wr R) : Calls P f args W R := h W hF
set_option maxHeartbeats 4000000 in
theorem l_FnExactRunDay (v : DayV) (l : List StepR) (A : Option Addr) (c : Nat) (w : World) (hv : v.At w) (hA : Sl w 2 StepR.row A l) (hl : l.length ≤ maxLen) :
    Calls Try.prog 9 #[v.val, .slice A l.length c] w fun e' w' => e' = .returned (.bool true) ∧ ∃ g, w' = plus w g := by
  have HV := hid hv
  have HA := hid hA
  unfold maxLen at hl
  obtain ⟨p, hp⟩ : ∃ p, runF v.core l = p := ⟨_, rfl⟩
  have hpl : p.1.lines.length ≤ 8 := by rw [← hp]; exact runF_len
  have HP := hid hp
  have HL := hid hpl
  clear hv hp hA
  go_enter Try.func9, Try.ntmps9
  go_wp2_with fail
  refine (l_szSurveyDay v _ _ (HV.out.grew (by (repeat (first | with_reducible exact grew_refl _ | with_reducible assumption | with_reducible refine grew_split ?_ | with_reducible refine grew_mk ?_ | with_reducible refine grew_plus ?_ | with_reducible refine grew_alloc ?_ | with_reducible refine grew_drew ?_ | (with_reducible refine grew_set ?_ (by first | exact Nat.le_refl _ | omega | (simp [go_sem]; done) | (simp [go_sem]; omega))))))) (by omega) (by omega)).mono ?_
  rintro e w' ⟨⟨kz, rfl, hkz, hkz1, hkz2⟩, gx, rfl⟩
  by_cases hneg : kz < 0
  · go_wp2_with fail
    go_ret
    exact ⟨rfl, by (repeat (first | with_reducible exact grew_refl _ | with_reducible assumption | with_reducible refine grew_split ?_ | with_reducible refine grew_mk ?_ | with_reducible refine grew_plus ?_ | with_reducible refine grew_alloc ?_ | with_reducible refine grew_drew ?_ | (with_reducible refine grew_set ?_ (by first | exact Nat.le_refl _ | omega | (simp [go_sem]; done) | (simp [go_sem]; omega)))))⟩
  have hl' := hkz2 (by omega)
  clear hkz2
  go_wp2_with fail
  refine (l_szDayStepS A l.length c kz _ (by unfold maxLen; omega) (by omega) (by omega)).mono ?_
  rintro e w' ⟨⟨kz2, rfl, hky, hky1, hky2⟩, gy, rfl⟩
  by_cases hneg2 : kz2 < 0
  · go_wp2_with fail
    go_ret
    exact ⟨rfl, by (repeat (first | with_reducible exact grew_refl _ | with_reducible assumption | with_reducible refine grew_split ?_ | with_reducible refine grew_mk ?_ | with_reducible refine grew_plus ?_ | with_reducible refine grew_alloc ?_ | with_reducible refine grew_drew ?_ | (with_reducible refine grew_set ?_ (by first | exact Nat.le_refl _ | omega | (simp [go_sem]; done) | (simp [go_sem]; omega)))))⟩
  have hl2 := hky2 (by omega)
  clear hky2
  go_wp2_with fail
  (refine (l_toSurveyDay v _ (HV.out.grew (by (repeat (first | with_reducible exact grew_refl _ | with_reducible assumption | with_reducible refine grew_split ?_ | with_reducible refine grew_mk ?_ | with_reducible refine grew_plus ?_ | with_reducible refine grew_alloc ?_ | with_reducible refine grew_drew ?_ | (with_reducible refine grew_set ?_ (by first | exact Nat.le_refl _ | omega | (simp [go_sem]; done) | (simp [go_sem]; omega))))))) hl').mono ?_; rintro e w' ⟨⟨AU1, cU1, rfl, huU1, hoU1⟩, gxU1, rfl⟩; (try rw [plus_plus] at huU1 hoU1); have U1 := hid huU1; have U1o := hid hoU1; clear huU1 hoU1)
  go_wp2_with fail
  (refine (l_toDayStepS l A c _ (HA.out.grew (by (repeat (first | with_reducible exact grew_refl _ | with_reducible assumption | with_reducible refine grew_split ?_ | with_reducible refine grew_mk ?_ | with_reducible refine grew_plus ?_ | with_reducible refine grew_alloc ?_ | with_reducible refine grew_drew ?_ | (with_reducible refine grew_set ?_ (by first | exact Nat.le_refl _ | omega | (simp [go_sem]; done) | (simp [go_sem]; omega))))))) (by omega)).mono ?_; rintro e w' ⟨⟨gT1, csT1, rfl, hgT1, hbT1, hsT1, hfT1⟩, gxT1, rfl⟩; (try rw [plus_plus] at hbT1); have T1 := hid hbT1; have T1s := hid hsT1; have T1f := hid hfT1; have T1g := hid hgT1; clear hbT1 hsT1 hfT1 hgT1)
  go_wp2_with fail
  (refine (s_RunDay ⟨v.core, AU1, cU1⟩ l (some ⟨gT1, 0, none⟩) l.length _ (U1.out.grew (by (repeat (first | with_reducible exact grew_refl _ | with_reducible assumption | with_reducible refine grew_split ?_ | with_reducible refine grew_mk ?_ | with_reducible refine grew_plus ?_ | with_reducible refine grew_alloc ?_ | with_reducible refine grew_drew ?_ | (with_reducible refine grew_set ?_ (by first | exact Nat.le_refl _ | omega | (simp [go_sem]; done) | (simp [go_sem]; omega))))))) ((Sl.of_blk T1.out T1f.out).grew (by (repeat (first | with_reducible exact grew_refl _ | with_reducible assumption | with_reducible refine grew_split ?_ | with_reducible refine grew_mk ?_ | with_reducible refine grew_plus ?_ | with_reducible refine grew_alloc ?_ | with_reducible refine grew_drew ?_ | (with_reducible refine grew_set ?_ (by first | exact Nat.le_refl _ | omega | (simp [go_sem]; done) | (simp [go_sem]; omega))))))) (by unfold maxLen; omega)).mono ?_; rw [HP.out]; rintro e w' ⟨⟨AO1, dO1, rfl, hoO1⟩, gsO1, rfl⟩; (try rw [plus_plus] at hoO1); have O1 := hid hoO1; clear hoO1)
  go_wp2_with fail
  generalize hb1 : w.heap.size + 1 + ((((gx.add gy).add gxU1).add gxT1).add gsO1).objs.size = b1
  refine calls_opaq (fun wr => Blk wr w.heap.size 24 #[.int .i64 v.core.minute, .int .i64 v.core.state, .slice v.A v.core.lines.length v.c, .int .i64 v.core.line, .int .i64 v.core.since, .int .i64 v.core.cast, .int .i64 v.core.fuel] ∧ Blk wr b1 29 #[.int .i64 p.1.minute, .int .i64 p.1.state, .slice AO1 p.1.lines.length dO1, .int .i64 p.1.line, .int .i64 p.1.since, .int .i64 p.1.cast, .int .i64 p.1.fuel] ∧ DayV.At wr ⟨p.1, AO1, dO1⟩ ∧ ∃ g, wr = plus w g) ⟨blk_grew (blk_new (w := w) rfl) (by (repeat (first | with_reducible exact grew_refl _ | with_reducible assumption | with_reducible refine grew_split ?_ | with_reducible refine grew_mk ?_ | with_reducible refine grew_plus ?_ | with_reducible refine grew_alloc ?_ | with_reducible refine grew_drew ?_ | (with_reducible refine grew_set ?_ (by first | exact Nat.le_refl _ | omega | (simp [go_sem]; done) | (simp [go_sem]; omega)))))), blk_new (by subst hb1; simp [go_sem]), ⟨O1.out.sl.grew (by (repeat (first | with_reducible exact grew_refl _ | with_reducible assumption | with_reducible refine grew_split ?_ | with_reducible refine grew_mk ?_ | with_reducible refine grew_plus ?_ | with_reducible refine grew_alloc ?_ | with_reducible refine grew_drew ?_ | (with_reducible refine grew_set ?_ (by first | exact Nat.le_refl _ | omega | (simp [go_sem]; done) | (simp [go_sem]; omega)))))), Nat.le_trans HL.out (by decide)⟩, by (repeat (first | with_reducible exact grew_refl _ | with_reducible assumption | with_reducible refine grew_split ?_ | with_reducible refine grew_mk ?_ | with_reducible refine grew_plus ?_ | with_reducible refine grew_alloc ?_ | with_reducible refine grew_drew ?_ | (with_reducible refine grew_set ?_ (by first | exact Nat.le_refl _ | omega | (simp [go_sem]; done) | (simp [go_sem]; omega)))))⟩ ?_
  clear hb1 O1 U1 U1o T1 T1s T1f T1g
  rintro W1 ⟨hBD, hB1, hO1, hg1⟩
  have HBD1 := hid hBD
  have HB1 := hid hB1
  have O1 := hid hO1
  have HG1 := hid hg1
  have HV1 := hid (HV.out.grew hg1)
  have HA1 := hid (HA.out.grew hg1)
  clear hBD hB1 hO1 hg1
  (refine (l_toSurveyDay v _ (HV1.out.grew (by (repeat (first | with_reducible exact grew_refl _ | with_reducible assumption | with_reducible refine grew_split ?_ | with_reducible refine grew_mk ?_ | with_reducible refine grew_plus ?_ | with_reducible refine grew_alloc ?_ | with_reducible refine grew_drew ?_ | (with_reducible refine grew_set ?_ (by first | exact Nat.le_refl _ | omega | (simp [go_sem]; done) | (simp [go_sem]; omega))))))) hl').mono ?_; rintro e w' ⟨⟨AU2, cU2, rfl, huU2, hoU2⟩, gxU2, rfl⟩; (try rw [plus_plus] at huU2 hoU2); have U2 := hid huU2; have U2o := hid hoU2; clear huU2 hoU2)
  go_wp2_with fail
  generalize hb2 : W1.heap.size + gxU2.objs.size = b2
  refine calls_opaq (fun wr => Blk wr b2 29 #[.int .i64 v.core.minute, .int .i64 v.core.state, .slice AU2 v.core.lines.length cU2, .int .i64 v.core.line, .int .i64 v.core.since, .int .i64 v.core.cast, .int .i64 v.core.fuel] ∧ DayOwn wr W1.heap.size AU2 cU2 v.core.lines ∧ ∃ g, wr = plus W1 g) ⟨blk_new (by subst hb2; simp [go_sem]), U2o.out.grew (by (repeat (first | with_reducible exact grew_refl _ | with_reducible assumption | with_reducible refine grew_split ?_ | with_reducible refine grew_mk ?_ | with_reducible refine grew_plus ?_ | with_reducible refine grew_alloc ?_ | with_reducible refine grew_drew ?_ | (with_reducible refine grew_set ?_ (by first | exact Nat.le_refl _ | omega | (simp [go_sem]; done) | (simp [go_sem]; omega)))))), by (repeat (first | with_reducible exact grew_refl _ | with_reducible assumption | with_reducible refine grew_split ?_ | with_reducible refine grew_mk ?_ | with_reducible refine grew_plus ?_ | with_reducible refine grew_alloc ?_ | with_reducible refine grew_drew ?_ | (with_reducible refine grew_set ?_ (by first | exact Nat.le_refl _ | omega | (simp [go_sem]; done) | (simp [go_sem]; omega)))))⟩ ?_
  clear hb2 U2 U2o
  rintro W2 ⟨hB2, hU2, hg2⟩
  have HB2 := hid hB2
  have U2o := hid hU2
  have HG2 := hid hg2
  have U2 := hid (DayV.At.mk (v := ⟨v.core, AU2, cU2⟩) hU2.sl (Nat.le_trans hl' (by decide)))
  have HA2 := hid (HA1.out.grew hg2)
  have HB12 := hid (blk_grew HB1.out hg2)
  have hlt1 := hB2.lt
  have hlt2 := HB12.out.lt
  (have hx0 := HB2.out.cell 0; have hx1 := HB2.out.cell 1; have hx2 := HB2.out.cell 2; have hx3 := HB2.out.cell 3; have hx4 := HB2.out.cell 4; have hx5 := HB2.out.cell 5; have hx6 := HB2.out.cell 6; simp [go_sem] at hx0 hx1 hx2 hx3 hx4 hx5 hx6)
  (have ho0 := HB12.out.cell 0; have ho1 := HB12.out.cell 1; have ho2 := HB12.out.cell 2; have ho3 := HB12.out.cell 3; have ho4 := HB12.out.cell 4; have ho5 := HB12.out.cell 5; have ho6 := HB12.out.cell 6; simp [go_sem] at ho0 ho1 ho2 ho3 ho4 ho5 ho6)
  clear hB2 hU2 hg2
  (refine (l_toDayStepS l A c _ (HA2.out.grew (by (repeat (first | with_reducible exact grew_refl _ | with_reducible assumption | with_reducible refine grew_split ?_ | with_reducible refine grew_mk ?_ | with_reducible refine grew_plus ?_ | with_reducible refine grew_alloc ?_ | with_reducible refine grew_drew ?_ | (with_reducible refine grew_set ?_ (by first | exact Nat.le_refl _ | omega | (simp [go_sem]; done) | (simp [go_sem]; omega))))))) (by omega)).mono ?_; rintro e w' ⟨⟨gT2, csT2, rfl, hgT2, hbT2, hsT2, hfT2⟩, gxT2, rfl⟩; (try rw [plus_plus] at hbT2); have T2 := hid hbT2; have T2s := hid hsT2; have T2f := hid hfT2; have T2g := hid hgT2; clear hbT2 hsT2 hfT2 hgT2)
  go_wp2_with fail
  (refine (i_RunDay ⟨v.core, AU2, cU2⟩ l (some ⟨gT2, 0, none⟩) l.length _ (U2.out.grew (by (repeat (first | with_reducible exact grew_refl _ | with_reducible assumption | with_reducible refine grew_split ?_ | with_reducible refine grew_mk ?_ | with_reducible refine grew_plus ?_ | with_reducible refine grew_alloc ?_ | with_reducible refine grew_drew ?_ | (with_reducible refine grew_set ?_ (by first | exact Nat.le_refl _ | omega | (simp [go_sem]; done) | (simp [go_sem]; omega))))))) ((Sl.of_blk T2.out T2f.out).grew (by (repeat (first | with_reducible exact grew_refl _ | with_reducible assumption | with_reducible refine grew_split ?_ | with_reducible refine grew_mk ?_ | with_reducible refine grew_plus ?_ | with_reducible refine grew_alloc ?_ | with_reducible refine grew_drew ?_ | (with_reducible refine grew_set ?_ (by first | exact Nat.le_refl _ | omega | (simp [go_sem]; done) | (simp [go_sem]; omega))))))) (by unfold maxLen; omega)).mono ?_; rw [HP.out]; rintro e w' ⟨⟨AO2, dO2, rfl, hoO2⟩, gsO2, rfl⟩; (try rw [plus_plus] at hoO2); have O2 := hid hoO2; clear hoO2)
  obtain ⟨B9, hB9⟩ : ∃ B9, B9 = (plus W2 gxT2).heap.size := ⟨_, rfl⟩
  rw [← hB9] at O2
  have HB9 := hid hB9
  clear hB9
  go_wp2_with fail
  generalize hb3 : W2.heap.size + (gxT2.add gsO2).objs.size = b3
  refine calls_opaq (fun wr => Blk wr b3 29 #[.int .i64 p.1.minute, .int .i64 p.1.state, .slice AO2 p.1.lines.length dO2, .int .i64 p.1.line, .int .i64 p.1.since, .int .i64 p.1.cast, .int .i64 p.1.fuel] ∧ OwnF B9 74 2 LineR.row wr AO2 p.1.lines ∧ (∀ k, rowOf AO2 p.1.lines = some k → k ≠ b3) ∧ Blk wr gT2 50 csT2 ∧ W2.heap.size ≤ B9 ∧ gT2 < B9 ∧ B9 ≤ b3 ∧ ∃ g, wr = plus W2 g) ⟨blk_new (by subst hb3; simp [go_sem]), O2.out.grew (by (repeat (first | with_reducible exact grew_refl _ | with_reducible assumption | with_reducible refine grew_split ?_ | with_reducible refine grew_mk ?_ | with_reducible refine grew_plus ?_ | with_reducible refine grew_alloc ?_ | with_reducible refine grew_drew ?_ | (with_reducible refine grew_set ?_ (by first | exact Nat.le_refl _ | omega | (simp [go_sem]; done) | (simp [go_sem]; omega)))))), (fun k hk => by have hz := (O2.out.row k hk).2; simp [go_sem] at hz; omega), blk_grew T2.out (by (repeat (first | with_reducible exact grew_refl _ | with_reducible assumption | with_reducible refine grew_split ?_ | with_reducible refine grew_mk ?_ | with_reducible refine grew_plus ?_ | with_reducible refine grew_alloc ?_ | with_reducible refine grew_drew ?_ | (with_reducible refine grew_set ?_ (by first | exact Nat.le_refl _ | omega | (simp [go_sem]; done) | (simp [go_sem]; omega)))))), (by rw [HB9.out]; simp [go_sem]), (by rw [HB9.out]; exact T2.out.lt), (by rw [HB9.out]; subst hb3; simp [go_sem, Ext.add]), by (repeat (first | with_reducible exact grew_refl _ | with_reducible assumption | with_reducible refine grew_split ?_ | with_reducible refine grew_mk ?_ | with_reducible refine grew_plus ?_ | with_reducible refine grew_alloc ?_ | with_reducible refine grew_drew ?_ | (with_reducible refine grew_set ?_ (by first | exact Nat.le_refl _ | omega | (simp [go_sem]; done) | (simp [go_sem]; omega)))))⟩ ?_
  clear hb3 O2 T2 hx0 hx1 hx2 hx3 hx4 hx5 hx6 ho0 ho1 ho2 ho3 ho4 ho5 ho6 hlt1 hlt2
  rintro W3 ⟨hB3, hO2, hR3, hT2, h29, hg9, h9b, hg3⟩
  have HB3 := hid hB3
  have O2 := hid hO2
  have HR3 := hid hR3
  have T2 := hid hT2
  have H29 := hid h29
  have HG9 := hid hg9
  have H9B := hid h9b
  have HG3 := hid hg3
  have HG31 : Hid (∃ g, W3 = plus W1 g) := hid (by obtain ⟨g, rfl⟩ := hg3; exact grew_plus HG2.out)
  have O2a := hid (DayV.At.mk (v := ⟨p.1, AO2, dO2⟩) hO2.sl (Nat.le_trans HL.out (by decide)))
  have HBD3 := hid (blk_grew HBD1.out HG31.out)
  have HV3 := hid (HV1.out.grew HG31.out)
  have HA3 := hid (HA1.out.grew HG31.out)
  have HB23 := hid (blk_grew HB2.out hg3)
  have O13 := hid (O1.out.grew HG31.out)
  have hlt8 := HBD3.out.lt
  have hlt9 := HB23.out.lt
  clear hB3 hO2 hR3 hT2 h29 hg9 h9b hg3
  refine (l_eqSurveyDay p.1 AO2 AO1 dO2 dO1 _ (O2a.out.grew (by (repeat (first | with_reducible exact grew_refl _ | with_reducible assumption | with_reducible refine grew_split ?_ | with_reducible refine grew_mk ?_ | with_reducible refine grew_plus ?_ | with_reducible refine grew_alloc ?_ | with_reducible refine grew_drew ?_ | (with_reducible refine grew_set ?_ (by first | exact Nat.le_refl _ | omega | (simp [go_sem]; done) | (simp [go_sem]; omega))))))) (O13.out.grew (by (repeat (first | with_reducible exact grew_refl _ | with_reducible assumption | with_reducible refine grew_split ?_ | with_reducible refine grew_mk ?_ | with_reducible refine grew_plus ?_ | with_reducible refine grew_alloc ?_ | with_reducible refine grew_drew ?_ | (with_reducible refine grew_set ?_ (by first | exact Nat.le_refl _ | omega | (simp [go_sem]; done) | (simp [go_sem]; omega)))))))).mono ?_
  rintro e w' ⟨rfl, gxe, rfl⟩
  (have hx0 := HB23.out.cell 0; have hx1 := HB23.out.cell 1; have hx2 := HB23.out.cell 2; have hx3 := HB23.out.cell 3; have hx4 := HB23.out.cell 4; have hx5 := HB23.out.cell 5; have hx6 := HB23.out.cell 6; simp [go_sem] at hx0 hx1 hx2 hx3 hx4 hx5 hx6)
  (have hq0 := HBD3.out.cell 0; have hq1 := HBD3.out.cell 1; have hq2 := HBD3.out.cell 2; have hq3 := HBD3.out.cell 3; have hq4 := HBD3.out.cell 4; have hq5 := HBD3.out.cell 5; have hq6 := HBD3.out.cell 6; simp [go_sem] at hq0 hq1 hq2 hq3 hq4 hq5 hq6)
  go_wp2_with fail
  have KEEP : Hid (∀ W : World, (∃ g, W = plus W3 g) → ((fun w' => w'.cell? ⟨b2, 0, none⟩ = some (.int .i64 v.core.minute) ∧ w'.cell? ⟨b2, 1, none⟩ = some (.int .i64 v.core.state) ∧ w'.cell? ⟨b2, 2, none⟩ = some (.slice AU2 v.core.lines.length cU2) ∧ w'.cell? ⟨b2, 3, none⟩ = some (.int .i64 v.core.line) ∧ w'.cell? ⟨b2, 4, none⟩ = some (.int .i64 v.core.since) ∧ w'.cell? ⟨b2, 5, none⟩ = some (.int .i64 v.core.cast) ∧ w'.cell? ⟨b2, 6, none⟩ = some (.int .i64 v.core.fuel) ∧ w'.cell? ⟨w.heap.size, 0, none⟩ = some (.int .i64 v.core.minute) ∧ w'.cell? ⟨w.heap.size, 1, none⟩ = some (.int .i64 v.core.state) ∧ w'.cell? ⟨w.heap.size, 2, none⟩ = some (.slice v.A v.core.lines.length v.c) ∧ w'.cell? ⟨w.heap.size, 3, none⟩ = some (.int .i64 v.core.line) ∧ w'.cell? ⟨w.heap.size, 4, none⟩ = some (.int .i64 v.core.since) ∧ w'.cell? ⟨w.heap.size, 5, none⟩ = some (.int .i64 v.core.cast) ∧ w'.cell? ⟨w.heap.size, 6, none⟩ = some (.int .i64 v.core.fuel))) W) := hid (by
    rintro W ⟨g, rfl⟩
    simp only [cell?_plus _ _ hlt9, cell?_plus _ _ hlt8, hx0, hx1, hx2, hx3, hx4, hx5, hx6, hq0, hq1, hq2, hq3, hq4, hq5, hq6, and_self])
  go_region_held3 (fun w' => w'.cell? ⟨b2, 0, none⟩ = some (.int .i64 v.core.minute) ∧ w'.cell? ⟨b2, 1, none⟩ = some (.int .i64 v.core.state) ∧ w'.cell? ⟨b2, 2, none⟩ = some (.slice AU2 v.core.lines.length cU2) ∧ w'.cell? ⟨b2, 3, none⟩ = some (.int .i64 v.core.line) ∧ w'.cell? ⟨b2, 4, none⟩ = some (.int .i64 v.core.since) ∧ w'.cell? ⟨b2, 5, none⟩ = some (.int .i64 v.core.cast) ∧ w'.cell? ⟨b2, 6, none⟩ = some (.int .i64 v.core.fuel) ∧ w'.cell? ⟨w.heap.size, 0, none⟩ = some (.int .i64 v.core.minute) ∧ w'.cell? ⟨w.heap.size, 1, none⟩ = some (.int .i64 v.core.state) ∧ w'.cell? ⟨w.heap.size, 2, none⟩ = some (.slice v.A v.core.lines.length v.c) ∧ w'.cell? ⟨w.heap.size, 3, none⟩ = some (.int .i64 v.core.line) ∧ w'.cell? ⟨w.heap.size, 4, none⟩ = some (.int .i64 v.core.since) ∧ w'.cell? ⟨w.heap.size, 5, none⟩ = some (.int .i64 v.core.cast) ∧ w'.cell? ⟨w.heap.size, 6, none⟩ = some (.int .i64 v.core.fuel)) (exact KEEP.out _ (by (repeat (first | with_reducible exact grew_refl _ | with_reducible assumption | with_reducible refine grew_split ?_ | with_reducible refine grew_mk ?_ | with_reducible refine grew_plus ?_ | with_reducible refine grew_alloc ?_ | with_reducible refine grew_drew ?_ | (with_reducible refine grew_set ?_ (by first | exact Nat.le_refl _ | omega | (simp [go_sem]; done) | (simp [go_sem]; omega))))))) (first | (go_at_call 14; (refine (l_toSurveyDay v _ (HV3.out.grew (by (repeat (first | with_reducible exact grew_refl _ | with_reducible assumption | with_reducible refine grew_split ?_ | with_reducible refine grew_mk ?_ | with_reducible refine grew_plus ?_ | with_reducible refine grew_alloc ?_ | with_reducible refine grew_drew ?_ | (with_reducible refine grew_set ?_ (by first | exact Nat.le_refl _ | omega | (simp [go_sem]; done) | (simp [go_sem]; omega))))))) hl').mono ?_; rintro e w' ⟨⟨AU3, cU3, rfl, huU3, hoU3⟩, gxU3, rfl⟩; (try rw [plus_plus] at huU3 hoU3); have U3 := hid huU3; have U3o := hid hoU3; clear huU3 hoU3)) | (go_at_call 16; refine (l_eqSurveyDay v.core AU2 AU3 cU2 cU3 _ ((U2.out.grew HG3.out).grew (by (repeat (first | with_reducible exact grew_refl _ | with_reducible assumption | with_reducible refine grew_split ?_ | with_reducible refine grew_mk ?_ | with_reducible refine grew_plus ?_ | with_reducible refine grew_alloc ?_ | with_reducible refine grew_drew ?_ | (with_reducible refine grew_set ?_ (by first | exact Nat.le_refl _ | omega | (simp [go_sem]; done) | (simp [go_sem]; omega))))))) (U3.out.grew (by (repeat (first | with_reducible exact grew_refl _ | with_reducible assumption | with_reducible refine grew_split ?_ | with_reducible refine grew_mk ?_ | with_reducible refine grew_plus ?_ | with_reducible refine grew_alloc ?_ | with_reducible refine grew_drew ?_ | (with_reducible refine grew_set ?_ (by first | exact Nat.le_refl _ | omega | (simp [go_sem]; done) | (simp [go_sem]; omega)))))))).mono ?_; rintro e w' ⟨rfl, gxf, rfl⟩))
  go_wp2_with fail
  (refine (l_toDayStepS l A c _ (HA3.out.grew (by (repeat (first | with_reducible exact grew_refl _ | with_reducible assumption | with_reducible refine grew_split ?_ | with_reducible refine grew_mk ?_ | with_reducible refine grew_plus ?_ | with_reducible refine grew_alloc ?_ | with_reducible refine grew_drew ?_ | (with_reducible refine grew_set ?_ (by first | exact Nat.le_refl _ | omega | (simp [go_sem]; done) | (simp [go_sem]; omega))))))) (by omega)).mono ?_; rintro e w' ⟨⟨gT3, csT3, rfl, hgT3, hbT3, hsT3, hfT3⟩, gxT3, rfl⟩; (try rw [plus_plus] at hbT3); have T3 := hid hbT3; have T3s := hid hsT3; have T3f := hid hfT3; have T3g := hid hgT3; clear hbT3 hsT3 hfT3 hgT3)
  go_wp2_with fail
  refine (l_eqDayStepS l (some ⟨gT2, 0, none⟩) (some ⟨gT3, 0, none⟩) l.length l.length _ ((Sl.of_blk T2.out T2f.out).grew (by (repeat (first | with_reducible exact grew_refl _ | with_reducible assumption | with_reducible refine grew_split ?_ | with_reducible refine grew_mk ?_ | with_reducible refine grew_plus ?_ | with_reducible refine grew_alloc ?_ | with_reducible refine grew_drew ?_ | (with_reducible refine grew_set ?_ (by first | exact Nat.le_refl _ | omega | (simp [go_sem]; done) | (simp [go_sem]; omega))))))) ((Sl.of_blk T3.out T3f.out).grew (by (repeat (first | with_reducible exact grew_refl _ | with_reducible assumption | with_reducible refine grew_split ?_ | with_reducible refine grew_mk ?_ | with_reducible refine grew_plus ?_ | with_reducible refine grew_alloc ?_ | with_reducible refine grew_drew ?_ | (with_reducible refine grew_set ?_ (by first | exact Nat.le_refl _ | omega | (simp [go_sem]; done) | (simp [go_sem]; omega))))))) (by unfold maxLen; omega)).mono ?_
  (rintro e w' ⟨rfl, gx, rfl⟩)
  go_wp2_with fail
  have HU3 := hid (U2o.out.grew HG3.out)
  refine (l_markSurveyDay W1.heap.size ⟨v.core, AU2, cU2⟩ 1 _ (HU3.out.f.grew (by (repeat (first | with_reducible exact grew_refl _ | with_reducible assumption | with_reducible refine grew_split ?_ | with_reducible refine grew_mk ?_ | with_reducible refine grew_plus ?_ | with_reducible refine grew_alloc ?_ | with_reducible refine grew_drew ?_ | (with_reducible refine grew_set ?_ (by first | exact Nat.le_refl _ | omega | (simp [go_sem]; done) | (simp [go_sem]; omega))))))) (by simp only; omega) (by omega) (by omega)).mono ?_
  have hg31 := HG31.out
  rintro e W4 ⟨rfl, -, hG⟩
  have hR2 := U2o.out.f.row
  have h29 := H29.out
  have hg9 := HG9.out
  have h9b := H9B.out
  have hgt := T2g.out
  have hg21 := (below_of_grew HG2.out).size
  have hg4 := grew_grown (w0 := W1) (by (repeat (first | with_reducible exact grew_refl _ | with_reducible assumption | with_reducible refine grew_split ?_ | with_reducible refine grew_mk ?_ | with_reducible refine grew_plus ?_ | with_reducible refine grew_alloc ?_ | with_reducible refine grew_drew ?_ | (with_reducible refine grew_set ?_ (by first | exact Nat.le_refl _ | omega | (simp [go_sem]; done) | (simp [go_sem]; omega)))))) hG (fun k hk => (hR2 k hk).1)
  have hB34 := (blk_grew HB3.out (by (repeat (first | with_reducible exact grew_refl _ | with_reducible assumption | with_reducible refine grew_split ?_ | with_reducible refine grew_mk ?_ | with_reducible refine grew_plus ?_ | with_reducible refine grew_alloc ?_ | with_reducible refine grew_drew ?_ | (with_reducible refine grew_set ?_ (by first | exact Nat.le_refl _ | omega | (simp [go_sem]; done) | (simp [go_sem]; omega))))))).grown hG (fun e => by have h1 := (hR2 _ e.symm).2; omega)
  have hT24 := (blk_grew T2.out (by (repeat (first | with_reducible exact grew_refl _ | with_reducible assumption | with_reducible refine grew_split ?_ | with_reducible refine grew_mk ?_ | with_reducible refine grew_plus ?_ | with_reducible refine grew_alloc ?_ | with_reducible refine grew_drew ?_ | (with_reducible refine grew_set ?_ (by first | exact Nat.le_refl _ | omega | (simp [go_sem]; done) | (simp [go_sem]; omega))))))).grown hG (fun e => by have h1 := (hR2 _ e.symm).2; omega)
  have hO24 := (O2.out.grew (by (repeat (first | with_reducible exact grew_refl _ | with_reducible assumption | with_reducible refine grew_split ?_ | with_reducible refine grew_mk ?_ | with_reducible refine grew_plus ?_ | with_reducible refine grew_alloc ?_ | with_reducible refine grew_drew ?_ | (with_reducible refine grew_set ?_ (by first | exact Nat.le_refl _ | omega | (simp [go_sem]; done) | (simp [go_sem]; omega))))))).kept hG (fun k hk => by have h1 := (hR2 k hk).2; omega)
  have HB34 := hid hB34
  have T24 := hid hT24
  have O24 := hid hO24
  have HG4 := hid hg4
  clear KEEP hx0 hx1 hx2 hx3 hx4 hx5 hx6 hq0 hq1 hq2 hq3 hq4 hq5 hq6 hlt8 hlt9 hg31 hG hB34 hO24 hT24 hR2 hg4 hg21 h29 hg9 h9b hgt
  go_wp2_with fail
  have hTO : OwnF W2.heap.size 50 2 StepR.row W4 (some ⟨gT2, 0, none⟩) l := .inr ⟨gT2, csT2, rfl, T2g.out, T24.out, Nat.le_of_eq T2s.out.symm, T2f.out⟩
  have HTO := hid hTO
  clear hTO
  refine (l_markDayStepS W2.heap.size l (some ⟨gT2, 0, none⟩) l.length _ _ (HTO.out.grew (by (repeat (first | with_reducible exact grew_refl _ | with_reducible assumption | with_reducible refine grew_split ?_ | with_reducible refine grew_mk ?_ | with_reducible refine grew_plus ?_ | with_reducible refine grew_alloc ?_ | with_reducible refine grew_drew ?_ | (with_reducible refine grew_set ?_ (by first | exact Nat.le_refl _ | omega | (simp [go_sem]; done) | (simp [go_sem]; omega))))))) (by omega) (by omega) (by omega)).mono ?_
  rintro e W5 ⟨rfl, -, hG⟩
  have hR2 : ∀ k, rowOf (some ⟨gT2, 0, none⟩) l = some k → k = gT2 := by
    intro k hk
    cases l with
    | nil => simp [rowOf] at hk
    | cons a r => simp [rowOf] at hk; exact hk.symm
  have hg9 := HG9.out
  have h9b := H9B.out
  have hgt := T2g.out
  have hg21 := (below_of_grew HG2.out).size
  have hg5 := grew_grown (w0 := W1) (by have := HG4.out; (repeat (first | with_reducible exact grew_refl _ | with_reducible assumption | with_reducible refine grew_split ?_ | with_reducible refine grew_mk ?_ | with_reducible refine grew_plus ?_ | with_reducible refine grew_alloc ?_ | with_reducible refine grew_drew ?_ | (with_reducible refine grew_set ?_ (by first | exact Nat.le_refl _ | omega | (simp [go_sem]; done) | (simp [go_sem]; omega)))))) hG (fun k hk => by have := hR2 k hk; omega)
  have hB35 := (blk_grew HB34.out (by (repeat (first | with_reducible exact grew_refl _ | with_reducible assumption | with_reducible refine grew_split ?_ | with_reducible refine grew_mk ?_ | with_reducible refine grew_plus ?_ | with_reducible refine grew_alloc ?_ | with_reducible refine grew_drew ?_ | (with_reducible refine grew_set ?_ (by first | exact Nat.le_refl _ | omega | (simp [go_sem]; done) | (simp [go_sem]; omega))))))).grown hG (fun e => by have := hR2 _ e.symm; omega)
  have hO25 := (O24.out.grew (by (repeat (first | with_reducible exact grew_refl _ | with_reducible assumption | with_reducible refine grew_split ?_ | with_reducible refine grew_mk ?_ | with_reducible refine grew_plus ?_ | with_reducible refine grew_alloc ?_ | with_reducible refine grew_drew ?_ | (with_reducible refine grew_set ?_ (by first | exact Nat.le_refl _ | omega | (simp [go_sem]; done) | (simp [go_sem]; omega))))))).kept hG (fun k hk => by have := hR2 k hk; omega)
  have HB35 := hid hB35
  have O25 := hid hO25
  have HG5 := hid hg5
  have HB15 := hid (blk_grew HB1.out hg5)
  have O15 := hid (O1.out.grew hg5)
  have O25a := hid (DayV.At.mk (v := ⟨p.1, AO2, dO2⟩) hO25.sl (Nat.le_trans HL.out (by decide)))
  have hlt1 := HB35.out.lt
  have hlt2 := HB15.out.lt
  clear hG hR2 hg9 h9b hgt hg21 hg5 hB35 hO25
  (have hr0 := HB35.out.cell 0; have hr1 := HB35.out.cell 1; have hr2 := HB35.out.cell 2; have hr3 := HB35.out.cell 3; have hr4 := HB35.out.cell 4; have hr5 := HB35.out.cell 5; have hr6 := HB35.out.cell 6; simp [go_sem] at hr0 hr1 hr2 hr3 hr4 hr5 hr6)
  (have ho0 := HB15.out.cell 0; have ho1 := HB15.out.cell 1; have ho2 := HB15.out.cell 2; have ho3 := HB15.out.cell 3; have ho4 := HB15.out.cell 4; have ho5 := HB15.out.cell 5; have ho6 := HB15.out.cell 6; simp [go_sem] at ho0 ho1 ho2 ho3 ho4 ho5 ho6)
  go_wp2_with fail
  refine (l_eqSurveyDay p.1 AO2 AO1 dO2 dO1 _ (O25a.out.grew (by (repeat (first | with_reducible exact grew_refl _ | with_reducible assumption | with_reducible refine grew_split ?_ | with_reducible refine grew_mk ?_ | with_reducible refine grew_plus ?_ | with_reducible refine grew_alloc ?_ | with_reducible refine grew_drew ?_ | (with_reducible refine grew_set ?_ (by first | exact Nat.le_refl _ | omega | (simp [go_sem]; done) | (simp [go_sem]; omega))))))) (O15.out.grew (by (repeat (first | with_reducible exact grew_refl _ | with_reducible assumption | with_reducible refine grew_split ?_ | with_reducible refine grew_mk ?_ | with_reducible refine grew_plus ?_ | with_reducible refine grew_alloc ?_ | with_reducible refine grew_drew ?_ | (with_reducible refine grew_set ?_ (by first | exact Nat.le_refl _ | omega | (simp [go_sem]; done) | (simp [go_sem]; omega)))))))).mono ?_
  rintro e w' ⟨rfl, gxh, rfl⟩
  go_wp2_with fail
  refine (l_markSurveyDay B9 ⟨p.1, AO2, dO2⟩ 1 _ (O25.out.grew (by (repeat (first | with_reducible exact grew_refl _ | with_reducible assumption | with_reducible refine grew_split ?_ | with_reducible refine grew_mk ?_ | with_reducible refine grew_plus ?_ | with_reducible refine grew_alloc ?_ | with_reducible refine grew_drew ?_ | (with_reducible refine grew_set ?_ (by first | exact Nat.le_refl _ | omega | (simp [go_sem]; done) | (simp [go_sem]; omega))))))) (by have := HL.out; simp only; omega) (by omega) (by omega)).mono ?_
  rintro e W6 ⟨rfl, hM, hG⟩
  have hR2 := O2.out.row
  have h29 := H29.out
  have hg21 := (below_of_grew HG2.out).size
  have hg6 := grew_grown (w0 := W1) (by have := HG5.out; (repeat (first | with_reducible exact grew_refl _ | with_reducible assumption | with_reducible refine grew_split ?_ | with_reducible refine grew_mk ?_ | with_reducible refine grew_plus ?_ | with_reducible refine grew_alloc ?_ | with_reducible refine grew_drew ?_ | (with_reducible refine grew_set ?_ (by first | exact Nat.le_refl _ | omega | (simp [go_sem]; done) | (simp [go_sem]; omega)))))) hG (fun k hk => by have := (hR2 k hk).1; omega)
  have hB36 := (blk_grew HB35.out (by (repeat (first | with_reducible exact grew_refl _ | with_reducible assumption | with_reducible refine grew_split ?_ | with_reducible refine grew_mk ?_ | with_reducible refine grew_plus ?_ | with_reducible refine grew_alloc ?_ | with_reducible refine grew_drew ?_ | (with_reducible refine grew_set ?_ (by first | exact Nat.le_refl _ | omega | (simp [go_sem]; done) | (simp [go_sem]; omega))))))).grown hG (fun e => HR3.out _ e.symm rfl)
  have HB36 := hid hB36
  have HM := hid hM
  have HG6 := hid hg6
  have HB16 := hid (blk_grew HB1.out hg6)
  have HBD6 := hid (blk_grew HBD1.out hg6)
  have HV6 := hid (HV1.out.grew hg6)
  have HA6 := hid (HA1.out.grew hg6)
  have O16 := hid (O1.out.grew hg6)
  have HGW : Hid (∃ g, W6 = plus w g) := hid (by
    obtain ⟨_, h5⟩ := hg6
    obtain ⟨_, h1⟩ := HG1.out
    rw [h5, h1, plus_plus]
    exact ⟨_, rfl⟩)
  have hlt4 := HB36.out.lt
  have hlt5 := HBD6.out.lt
  have hlt6 := HB16.out.lt
  clear hr0 hr1 hr2 hr3 hr4 hr5 hr6 ho0 ho1 ho2 ho3 ho4 ho5 ho6 hlt1 hlt2 hG hg6 hB36 hM hR2 h29 hg21
  (have hr0 := HB36.out.cell 0; have hr1 := HB36.out.cell 1; have hr2 := HB36.out.cell 2; have hr3 := HB36.out.cell 3; have hr4 := HB36.out.cell 4; have hr5 := HB36.out.cell 5; have hr6 := HB36.out.cell 6; simp [go_sem] at hr0 hr1 hr2 hr3 hr4 hr5 hr6)
  (have hq0 := HBD6.out.cell 0; have hq1 := HBD6.out.cell 1; have hq2 := HBD6.out.cell 2; have hq3 := HBD6.out.cell 3; have hq4 := HBD6.out.cell 4; have hq5 := HBD6.out.cell 5; have hq6 := HBD6.out.cell 6; simp [go_sem] at hq0 hq1 hq2 hq3 hq4 hq5 hq6)
  (have ho0 := HB16.out.cell 0; have ho1 := HB16.out.cell 1; have ho2 := HB16.out.cell 2; have ho3 := HB16.out.cell 3; have ho4 := HB16.out.cell 4; have ho5 := HB16.out.cell 5; have ho6 := HB16.out.cell 6; simp [go_sem] at ho0 ho1 ho2 ho3 ho4 ho5 ho6)
  go_wp2_with fail
  refine (l_heldSurveyDay ⟨p.1, AO2, dO2⟩ 1 _ (HM.out.sl.grew (by (repeat (first | with_reducible exact grew_refl _ | with_reducible assumption | with_reducible refine grew_split ?_ | with_reducible refine grew_mk ?_ | with_reducible refine grew_plus ?_ | with_reducible refine grew_alloc ?_ | with_reducible refine grew_drew ?_ | (with_reducible refine grew_set ?_ (by first | exact Nat.le_refl _ | omega | (simp [go_sem]; done) | (simp [go_sem]; omega))))))) (by have := HL.out; simp only; omega) (by omega) (by omega)).mono ?_
  (rintro e w' ⟨rfl, gx, rfl⟩)
  go_wp2_with fail
  (refine (l_toSurveyDay v _ (HV6.out.grew (by (repeat (first | with_reducible exact grew_refl _ | with_reducible assumption | with_reducible refine grew_split ?_ | with_reducible refine grew_mk ?_ | with_reducible refine grew_plus ?_ | with_reducible refine grew_alloc ?_ | with_reducible refine grew_drew ?_ | (with_reducible refine grew_set ?_ (by first | exact Nat.le_refl _ | omega | (simp [go_sem]; done) | (simp [go_sem]; omega))))))) hl').mono ?_; rintro e w' ⟨⟨AU4, cU4, rfl, huU4, hoU4⟩, gxU4, rfl⟩; (try rw [plus_plus] at huU4 hoU4); have U4 := hid huU4; have U4o := hid hoU4; clear huU4 hoU4)
  go_wp2_with fail
  (refine (l_toDayStepS l A c _ (HA6.out.grew (by (repeat (first | with_reducible exact grew_refl _ | with_reducible assumption | with_reducible refine grew_split ?_ | with_reducible refine grew_mk ?_ | with_reducible refine grew_plus ?_ | with_reducible refine grew_alloc ?_ | with_reducible refine grew_drew ?_ | (with_reducible refine grew_set ?_ (by first | exact Nat.le_refl _ | omega | (simp [go_sem]; done) | (simp [go_sem]; omega))))))) (by omega)).mono ?_; rintro e w' ⟨⟨gT4, csT4, rfl, hgT4, hbT4, hsT4, hfT4⟩, gxT4, rfl⟩; (try rw [plus_plus] at hbT4); have T4 := hid hbT4; have T4s := hid hsT4; have T4f := hid hfT4; have T4g := hid hgT4; clear hbT4 hsT4 hfT4 hgT4)
  go_wp2_with fail
  (refine (i_RunDay ⟨v.core, AU4, cU4⟩ l (some ⟨gT4, 0, none⟩) l.length _ (U4.out.grew (by (repeat (first | with_reducible exact grew_refl _ | with_reducible assumption | with_reducible refine grew_split ?_ | with_reducible refine grew_mk ?_ | with_reducible refine grew_plus ?_ | with_reducible refine grew_alloc ?_ | with_reducible refine grew_drew ?_ | (with_reducible refine grew_set ?_ (by first | exact Nat.le_refl _ | omega | (simp [go_sem]; done) | (simp [go_sem]; omega))))))) ((Sl.of_blk T4.out T4f.out).grew (by (repeat (first | with_reducible exact grew_refl _ | with_reducible assumption | with_reducible refine grew_split ?_ | with_reducible refine grew_mk ?_ | with_reducible refine grew_plus ?_ | with_reducible refine grew_alloc ?_ | with_reducible refine grew_drew ?_ | (with_reducible refine grew_set ?_ (by first | exact Nat.le_refl _ | omega | (simp [go_sem]; done) | (simp [go_sem]; omega))))))) (by unfold maxLen; omega)).mono ?_; rw [HP.out]; rintro e w' ⟨⟨AO5, dO5, rfl, hoO5⟩, gsO5, rfl⟩; (try rw [plus_plus] at hoO5); have O5 := hid hoO5; clear hoO5)
  go_wp2_with fail
  have O5a := hid (DayV.At.mk (v := ⟨p.1, AO5, dO5⟩) O5.out.sl (Nat.le_trans HL.out (by decide)))
  refine (l_eqSurveyDay p.1 AO5 AO1 dO5 dO1 _ (O5a.out.grew (by (repeat (first | with_reducible exact grew_refl _ | with_reducible assumption | with_reducible refine grew_split ?_ | with_reducible refine grew_mk ?_ | with_reducible refine grew_plus ?_ | with_reducible refine grew_alloc ?_ | with_reducible refine grew_drew ?_ | (with_reducible refine grew_set ?_ (by first | exact Nat.le_refl _ | omega | (simp [go_sem]; done) | (simp [go_sem]; omega))))))) (O16.out.grew (by (repeat (first | with_reducible exact grew_refl _ | with_reducible assumption | with_reducible refine grew_split ?_ | with_reducible refine grew_mk ?_ | with_reducible refine grew_plus ?_ | with_reducible refine grew_alloc ?_ | with_reducible refine grew_drew ?_ | (with_reducible refine grew_set ?_ (by first | exact Nat.le_refl _ | omega | (simp [go_sem]; done) | (simp [go_sem]; omega)))))))).mono ?_
  rintro e w' ⟨rfl, gxi, rfl⟩
  go_wp2_with fail
  refine (l_heldSurveyDay ⟨p.1, AO2, dO2⟩ 1 _ (HM.out.sl.grew (by (repeat (first | with_reducible exact grew_refl _ | with_reducible assumption | with_reducible refine grew_split ?_ | with_reducible refine grew_mk ?_ | with_reducible refine grew_plus ?_ | with_reducible refine grew_alloc ?_ | with_reducible refine grew_drew ?_ | (with_reducible refine grew_set ?_ (by first | exact Nat.le_refl _ | omega | (simp [go_sem]; done) | (simp [go_sem]; omega))))))) (by have := HL.out; simp only; omega) (by omega) (by omega)).mono ?_
  (rintro e w' ⟨rfl, gx, rfl⟩)
  go_wp2_with fail
  go_ret
  have hgw := HGW.out
  exact ⟨rfl, by (repeat (first | with_reducible exact grew_refl _ | with_reducible assumption | with_reducible refine grew_split ?_ | with_reducible refine grew_mk ?_ | with_reducible refine grew_plus ?_ | with_reducible refine grew_alloc ?_ | with_reducible refine grew_drew ?_ | (with_reducible refine grew_set ?_ (by first | exact Nat.le_refl _ | omega | (simp [go_sem]; done) | (simp [go_sem]; omega)))))⟩
theorem fnExactRunDay_own : ownKnob Try.prog.godebug = none := by kernel_rfl
theorem fnExactRunDay_laidOut : laidOutB Try.prog = true := by kernel_rfl
set_option maxRecDepth 100000 in
theorem fnExactRunDay_lifted (os : Os) (started : os.Started) (H : Type) (enc : TypeId × Value → H) :
    ReturnsInHanded {} Try.checked os 9 .any (Rows.fnExactRunDaySpec.pre6 enc Try.prog Try.f9 Rows.fnExactRunDayRow.domain false) (Rows.fnExactRunDaySpec.post enc Try.prog Try.f9 false true false false) := by
  refine returnsInHanded_of_change (C := Try.checked) fnExactRunDay_own started (by kernel_rfl) Try.func9
    (ChangeSpec.witness6 (enc := enc) (C := Try.checked) false ⟨#[], #[.agg #[.int .i64 0, .int .i64 0, .slice none 0 0, .int .i64 0, .int .i64 0, .int .i64 0, .int .i64 0], .slice none 0 0], []⟩ 8 (by kernel_rfl) (by kernel_rfl) (by kernel_rfl) (by kernel_rfl)) ?_
  intro W base args ds gs before hval0 hW hcnd _
  have hval : ∀ (j : Nat) t v, Try.f9.params[j]? = some t → args[j]? = some v → Value.okWide Try.prog W .any base t v := hval0
  have hW' := hW
  obtain ⟨p, q, hA0, hV, rfl, hfz, hnd⟩ := hW
  have hA : DataW.TrodAll enc Try.prog W 0 (fun _ => true) true Try.f9.params.toList args.toList ds p := hA0
  rw [Try.params9] at hA hval
  obtain ⟨v0, vs0, d0, ds0, p0, q0, hargs, rfl, rfl, h0, r0⟩ := trodAll_cons hA
  obtain ⟨v1, vs1, d1, ds1, p1, q1, rfl, rfl, rfl, h1, r1⟩ := trodAll_cons r0
  obtain ⟨rfl, rfl, rfl⟩ := trodAll_nil r1
  obtain rfl : args = #[v0, v1] := by cases args; simp_all
  obtain ⟨rfl, rfl⟩ := trodVars_none hV
  have k0 := h0
  have lt0 : ∀ x ∈ p0, x.block < W.heap.size := by obtain ⟨m, hm⟩ := k0; exact DataW.trod_lt m _ _ _ hm
  have k1 := h1
  have lt1 : ∀ x ∈ p1, x.block < W.heap.size := by obtain ⟨m, hm⟩ := k1; exact DataW.trod_lt m _ _ _ hm
  obtain ⟨u, rfl, hu⟩ := open_day (hval 0 24 v0 rfl rfl) h0
  obtain ⟨A, c, l, rfl, hS, hl⟩ := open_steps (hval 1 53 v1 rfl rfl) h1
  clear hA0 hval0
  refine (l_FnExactRunDay u l A c W hu hS hl).mono fun e W' ⟨he, hg⟩ => ?_
  have bel := below_of_grew hg
  subst he
  exact ⟨_, rfl, _, _, _, [], _, [], hW', trodAll_mk1 (shut_bool Try.underlying4 _), (trodAll_cons_mk (Below.trod fnExactRunDay_laidOut (by kernel_rfl) (of_decide_eq_true (by kernel_rfl)) k0 bel lt0) (trodAll_cons_mk (Below.trod fnExactRunDay_laidOut (by kernel_rfl) (of_decide_eq_true (by kernel_rfl)) k1 bel lt1) trodAll_mk0)), rfl, bel.frame _, fun h => by cases h⟩
theorem fnExactRunDay_over : Rows.fnExactRunDayRow.holds Try.pinned (OpenSpec.ofChange Rows.fnExactRunDaySpec) :=
  OpenClaim.holds_of_wide 9 Try.f9 rfl rfl rfl rfl rfl rfl rfl ⟨rfl, rfl, rfl, rfl, rfl⟩ rfl rfl rfl rfl rfl (by kernel_rfl) Try.func9 (by kernel_rfl)
    (of_decide_eq_true (by kernel_rfl)) (by unfold Func.isWrapper; first | (rw [if_pos (by decide +kernel)]; kernel_rfl) | (rw [if_neg (by decide +kernel)]; exact ⟨rfl, rfl⟩))
    (fun os started H enc _ => fnExactRunDay_lifted os started H enc)
theorem fnExactRunDay_holds : Rows.FnExactRunDaySaid := fnExactRunDay_over
end Go.Proofs.Ytcmeiojfmpkkeaa
