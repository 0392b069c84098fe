/- The law FnExactStepDay. No condition. -/
import Derived.Test.YtcmeiojfmpkkeaaRows
import Derived.Test.YtcmeiojfmpkkeaaD5
import Derived.Test.YtcmeiojfmpkkeaaD16
import Derived.Test.YtcmeiojfmpkkeaaOpenDay
import Derived.Deep.RegionHeld3
import Derived.Deep.DrawnRows
namespace Go.Proofs.Ytcmeiojfmpkkeaa
open Go.ChangeShapes Go.WideShapes Go.ChangeAt Go.RowKit Go.Deep Go.Joins
open Go.ChangeMaps (open_string shut_string)

attribute [local go_sem ↓] Go.wp_at_zero Go.wp_at_succ
theorem stepF_len {v : DayC} {k x : Int} : (stepF v k x).1.lines.length ≤ 8 := by
  cases h : (stepF v k x).2
  · rw [stepF_no h]; simp [noDay]
  · have := DayC.bounds (stepF_ok h); omega
theorem stepAll_len {v : DayC} {k x : Int} : (stepAll v k x).1.lines.length ≤ 8 := by
  unfold stepAll
  split
  · exact stepF_len
  · simp [noDay]
theorem wp_opaque {P : Program} {c : Code} {Q : Exit → Act → World → Prop} {a : Act} {W : World} (F : World → Prop) (hF : F W) (h : ∀ wr, F wr → Code.wp P c Q a wr) : Code.wp P c Q a W := h W hF
set_option maxHeartbeats 400000 in
theorem l_toDayStep (k x : Int) (w : World) :
    Calls Try.prog 32 #[.agg #[.int .i64 k, .int .i64 x]] w fun e' w' => e' = .returned (.agg #[.int .i64 k, .int .i64 x]) ∧ ∃ g, w' = plus w g := by
  go_enter Try.func32, Try.ntmps32
  go_wp2
  refine bodyPost_ret (v := .agg #[.int .i64 k, .int .i64 x]) (by simp [results, Try.results32, go_sem]) rfl ⟨rfl, ?_⟩
  (repeat (first | with_reducible exact grew_refl _ | with_reducible assumption | with_reducible refine grew_split ?_ | with_reducible refine grew_mk ?_ | with_reducible refine grew_plus ?_ | with_reducible refine grew_alloc ?_ | with_reducible refine grew_drew ?_ | (with_reducible refine grew_set ?_ (by first | exact Nat.le_refl _ | omega | (simp [go_sem]; done) | (simp [go_sem]; omega)))))
theorem cut6 {G F : Nat → Option Addr → Nat → Option Addr → Nat → World → Prop} {T : Prop} (main : (∀ b A c A' c' W, F b A c A' c' W → G b A c A' c' W) → T) (cut : ∀ b A c A' c' W, F b A c A' c' W → G b A c A' c' W) : T := main cut
set_option maxRecDepth 100000 in
/-- A step that came in by value. -/
theorem open_step {H : Type} {enc : TypeId × Value → H} {w : World} {r : Reach} {b0 base : Nat} {spare : Nat → Bool} {held : Bool} {v : Value} {d : DataW H} {p : List MemPlace} (hv : Value.okWide Try.prog w r b0 48 v) (h : DataW.Trod enc Try.prog w base spare held 48 v d p) : ∃ k x : Int, v = .agg #[.int .i64 k, .int .i64 x] := by
  obtain ⟨cs, fuel, rfl, hf⟩ := read_value Try.underlying48 hv h
  obtain ⟨xs, m, _, _, hl, hx, hf⟩ := DataW.trod_struct Try.underlying48 hf
  have hC : Try.prog.cellsOf 48 = 2 := by kernel_rfl
  obtain ⟨cs⟩ := cs
  match cs, hl.trans hC with
  | [c0, c1], _ =>
    obtain ⟨y0, h0⟩ := field_at hf hx 0 _ rfl 1 (by kernel_rfl)
    obtain ⟨y1, h1⟩ := field_at hf hx 1 _ rfl 1 (by kernel_rfl)
    obtain ⟨k, e0, _, _⟩ := DataW.trod_int Try.underlying3 h0
    obtain ⟨x, e1, _, _⟩ := DataW.trod_int Try.underlying3 h1
    simp at e0 e1
    subst e0 e1
    exact ⟨k, x, rfl⟩
theorem cut4 {G F : Nat → Option Addr → Nat → World → Prop} {T : Prop} (main : (∀ b A' c' W, F b A' c' W → G b A' c' W) → T) (cut : ∀ b A' c' W, F b A' c' W → G b A' c' W) : T := main cut
set_option maxHeartbeats 4000000 in
theorem l_FnExactStepDay (v : DayV) (k x : Int) (w : World) (hv : v.At w) :
    Calls Try.prog 8 #[v.val, .agg #[.int .i64 k, .int .i64 x]] w fun e' w' => e' = .returned (.bool true) ∧ ∃ g, w' = plus w g := by
  have HV := hid hv
  obtain ⟨p, hp⟩ : ∃ p, stepAll v.core k x = p := ⟨_, rfl⟩
  have hpl : p.1.lines.length ≤ 8 := by rw [← hp]; exact stepAll_len
  have HP := hid hp
  have HL := hid hpl
  clear hv hp
  go_enter Try.func8, Try.ntmps8
  go_wp2_with fail
  refine (l_szSurveyDay v _ _ (HV.out.grew (by (repeat (first | with_reducible exact grew_refl _ | with_reducible assumption | with_reducible refine grew_split ?_ | with_reducible refine grew_mk ?_ | with_reducible refine grew_plus ?_ | with_reducible refine grew_alloc ?_ | with_reducible refine grew_drew ?_ | (with_reducible refine grew_set ?_ (by first | exact Nat.le_refl _ | omega | (simp [go_sem]; done) | (simp [go_sem]; omega))))))) (by omega) (by omega)).mono ?_
  rintro e w' ⟨⟨kz, rfl, hkz, hkz1, hkz2⟩, gx, rfl⟩
  by_cases hneg : kz < 0
  · go_wp2_with fail
    go_ret
    exact ⟨rfl, by (repeat (first | with_reducible exact grew_refl _ | with_reducible assumption | with_reducible refine grew_split ?_ | with_reducible refine grew_mk ?_ | with_reducible refine grew_plus ?_ | with_reducible refine grew_alloc ?_ | with_reducible refine grew_drew ?_ | (with_reducible refine grew_set ?_ (by first | exact Nat.le_refl _ | omega | (simp [go_sem]; done) | (simp [go_sem]; omega)))))⟩
  have hl' := hkz2 (by omega)
  clear hkz2
  go_wp2_with fail
  refine wp_opaque (fun wr => Blk wr w.heap.size 24 #[.int .i64 v.core.minute, .int .i64 v.core.state, .slice v.A v.core.lines.length v.c, .int .i64 v.core.line, .int .i64 v.core.since, .int .i64 v.core.cast, .int .i64 v.core.fuel] ∧ Blk wr (w.heap.size + 1) 48 #[.int .i64 k, .int .i64 x] ∧ ∃ g, wr = plus w g) ⟨blk_grew (blk_new (w := w) rfl) (by (repeat (first | with_reducible exact grew_refl _ | with_reducible assumption | with_reducible refine grew_split ?_ | with_reducible refine grew_mk ?_ | with_reducible refine grew_plus ?_ | with_reducible refine grew_alloc ?_ | with_reducible refine grew_drew ?_ | (with_reducible refine grew_set ?_ (by first | exact Nat.le_refl _ | omega | (simp [go_sem]; done) | (simp [go_sem]; omega)))))), blk_grew (blk_new (w := w.alloc _) (by simp)) (by (repeat (first | with_reducible exact grew_refl _ | with_reducible assumption | with_reducible refine grew_split ?_ | with_reducible refine grew_mk ?_ | with_reducible refine grew_plus ?_ | with_reducible refine grew_alloc ?_ | with_reducible refine grew_drew ?_ | (with_reducible refine grew_set ?_ (by first | exact Nat.le_refl _ | omega | (simp [go_sem]; done) | (simp [go_sem]; omega)))))), by (repeat (first | with_reducible exact grew_refl _ | with_reducible assumption | with_reducible refine grew_split ?_ | with_reducible refine grew_mk ?_ | with_reducible refine grew_plus ?_ | with_reducible refine grew_alloc ?_ | with_reducible refine grew_drew ?_ | (with_reducible refine grew_set ?_ (by first | exact Nat.le_refl _ | omega | (simp [go_sem]; done) | (simp [go_sem]; omega)))))⟩ ?_
  rintro wr ⟨hBD, hBS, hg⟩
  have hlt := hBS.lt
  have hlt0 := hBD.lt
  (have hq0 := hBD.cell 0; have hq1 := hBD.cell 1; have hq2 := hBD.cell 2; have hq3 := hBD.cell 3; have hq4 := hBD.cell 4; have hq5 := hBD.cell 5; have hq6 := hBD.cell 6; simp [go_sem] at hq0 hq1 hq2 hq3 hq4 hq5 hq6)
  have hs0 := hBS.cell 0
  have hs1 := hBS.cell 1
  simp [go_sem] at hs0 hs1
  have HV2 := hid (HV.out.grew hg)
  have HG := hid hg
  have HBD := hid hBD
  have HBS := hid hBS
  clear hBD hBS hg HV
  have KEEP : Hid (∀ W : World, (∃ g, W = plus wr g) → ((fun w' => w'.cell? ⟨w.heap.size, 0, none⟩ = some (.int .i64 v.core.minute) ∧ w'.cell? ⟨w.heap.size, 1, none⟩ = some (.int .i64 v.core.state) ∧ w'.cell? ⟨w.heap.size, 2, none⟩ = some (.slice v.A v.core.lines.length v.c) ∧ w'.cell? ⟨w.heap.size, 3, none⟩ = some (.int .i64 v.core.line) ∧ w'.cell? ⟨w.heap.size, 4, none⟩ = some (.int .i64 v.core.since) ∧ w'.cell? ⟨w.heap.size, 5, none⟩ = some (.int .i64 v.core.cast) ∧ w'.cell? ⟨w.heap.size, 6, none⟩ = some (.int .i64 v.core.fuel) ∧ w'.cell? ⟨w.heap.size + 1, 0, none⟩ = some (.int .i64 k) ∧ w'.cell? ⟨w.heap.size + 1, 1, none⟩ = some (.int .i64 x))) W) := hid (by
    rintro W ⟨g, rfl⟩
    simp only [cell?_plus _ _ hlt0, cell?_plus _ _ hlt, hq0, hq1, hq2, hq3, hq4, hq5, hq6, hs0, hs1, and_self])
  refine' cut6 (F := fun b _ _ A' c' W => Blk W b 29 #[.int .i64 p.1.minute, .int .i64 p.1.state, .slice A' p.1.lines.length c', .int .i64 p.1.line, .int .i64 p.1.since, .int .i64 p.1.cast, .int .i64 p.1.fuel] ∧ OwnF wr.heap.size 74 2 LineR.row W A' p.1.lines ∧ (∃ g, W = plus wr g)) (fun CUT => ?_) ?_
  rotate_left 1
  · go_region_held3 (fun w' => w'.cell? ⟨w.heap.size, 0, none⟩ = some (.int .i64 v.core.minute) ∧ w'.cell? ⟨w.heap.size, 1, none⟩ = some (.int .i64 v.core.state) ∧ w'.cell? ⟨w.heap.size, 2, none⟩ = some (.slice v.A v.core.lines.length v.c) ∧ w'.cell? ⟨w.heap.size, 3, none⟩ = some (.int .i64 v.core.line) ∧ w'.cell? ⟨w.heap.size, 4, none⟩ = some (.int .i64 v.core.since) ∧ w'.cell? ⟨w.heap.size, 5, none⟩ = some (.int .i64 v.core.cast) ∧ w'.cell? ⟨w.heap.size, 6, none⟩ = some (.int .i64 v.core.fuel) ∧ w'.cell? ⟨w.heap.size + 1, 0, none⟩ = some (.int .i64 k) ∧ w'.cell? ⟨w.heap.size + 1, 1, none⟩ = some (.int .i64 x)) (exact KEEP.out _ (by (repeat (first | with_reducible exact grew_refl _ | with_reducible assumption | with_reducible refine grew_split ?_ | with_reducible refine grew_mk ?_ | with_reducible refine grew_plus ?_ | with_reducible refine grew_alloc ?_ | with_reducible refine grew_drew ?_ | (with_reducible refine grew_set ?_ (by first | exact Nat.le_refl _ | omega | (simp [go_sem]; done) | (simp [go_sem]; omega))))))) (first | (go_at_call 14; (refine (l_toSurveyDay v _ (HV2.out.grew (by (repeat (first | with_reducible exact grew_refl _ | with_reducible assumption | with_reducible refine grew_split ?_ | with_reducible refine grew_mk ?_ | with_reducible refine grew_plus ?_ | with_reducible refine grew_alloc ?_ | with_reducible refine grew_drew ?_ | (with_reducible refine grew_set ?_ (by first | exact Nat.le_refl _ | omega | (simp [go_sem]; done) | (simp [go_sem]; omega))))))) hl').mono ?_; rintro e w' ⟨⟨AU1, cU1, rfl, huU1, hoU1⟩, gxU1, rfl⟩; (try rw [plus_plus] at huU1 hoU1); have U1 := hid huU1; have U1o := hid hoU1; clear huU1 hoU1)) | (go_at_call 32; (refine (l_toDayStep k x _).mono ?_; rintro e w' ⟨rfl, gxS1, rfl⟩)) | (go_at_call 31; (refine (s_StepDay ⟨v.core, AU1, cU1⟩ k x _ (U1.out.grew (by (repeat (first | with_reducible exact grew_refl _ | with_reducible assumption | with_reducible refine grew_split ?_ | with_reducible refine grew_mk ?_ | with_reducible refine grew_plus ?_ | with_reducible refine grew_alloc ?_ | with_reducible refine grew_drew ?_ | (with_reducible refine grew_set ?_ (by first | exact Nat.le_refl _ | omega | (simp [go_sem]; done) | (simp [go_sem]; omega)))))))).mono ?_; rw [HP.out]; rintro e w' ⟨⟨AO1, dO1, rfl, hoO1⟩, gsO1, rfl⟩; (try rw [plus_plus] at hoO1); have O1 := hid hoO1; clear hoO1)))
    · generalize hb : wr.heap.size + ((gxU1.add gxS1).add gsO1).objs.size = b
      generalize hW : (plus wr.drew ((gxU1.add gxS1).add gsO1)).alloc (.cells #[.int .i64 p.1.minute, .int .i64 p.1.state, .slice AO1 p.1.lines.length dO1, .int .i64 p.1.line, .int .i64 p.1.since, .int .i64 p.1.cast, .int .i64 p.1.fuel] 29) = W
      refine CUT b AU1 cU1 AO1 dO1 W ?_
      subst hb hW
      exact ⟨(by first | exact blk_new (by first | (simp [go_sem]; done) | (simp [go_sem]; omega) | (simp [go_sem, Ext.add]; done) | (simp [go_sem, Ext.add]; omega) | omega) | exact blk_grew (blk_new (by first | (simp [go_sem]; done) | (simp [go_sem]; omega) | (simp [go_sem, Ext.add]; done) | (simp [go_sem, Ext.add]; omega) | omega)) (grew_plus (grew_refl _)) | exact blk_grew (blk_new (by first | (simp [go_sem]; done) | (simp [go_sem]; omega) | (simp [go_sem, Ext.add]; done) | (simp [go_sem, Ext.add]; omega) | omega)) (grew_plus (grew_drew (grew_refl _)))), (by first | exact (OwnF.grew O1.out (grew_alloc (grew_refl _))).less (by first | (simp [go_sem]; done) | (simp [go_sem]; omega) | (simp [go_sem, Ext.add]; done) | (simp [go_sem, Ext.add]; omega) | omega) | exact (OwnF.base O1.out (by first | (simp [go_sem]; done) | (simp [go_sem]; omega) | (simp [go_sem, Ext.add]; done) | (simp [go_sem, Ext.add]; omega) | omega) (by first | (simp [go_sem]; done) | (simp [go_sem]; omega) | (simp [go_sem, Ext.add]; done) | (simp [go_sem, Ext.add]; omega) | omega)).less (by first | (simp [go_sem]; done) | (simp [go_sem]; omega) | (simp [go_sem, Ext.add]; done) | (simp [go_sem, Ext.add]; omega) | omega)), by (repeat (first | with_reducible exact grew_refl _ | with_reducible assumption | with_reducible refine grew_split ?_ | with_reducible refine grew_mk ?_ | with_reducible refine grew_plus ?_ | with_reducible refine grew_alloc ?_ | with_reducible refine grew_drew ?_ | (with_reducible refine grew_set ?_ (by first | exact Nat.le_refl _ | omega | (simp [go_sem]; done) | (simp [go_sem]; omega)))))⟩
    all_goals
      refine CUT _ AU1 cU1 AO1 dO1 _ ?_
      exact ⟨(by first | exact blk_new (by first | (simp [go_sem]; done) | (simp [go_sem]; omega) | (simp [go_sem, Ext.add]; done) | (simp [go_sem, Ext.add]; omega) | omega) | exact blk_grew (blk_new (by first | (simp [go_sem]; done) | (simp [go_sem]; omega) | (simp [go_sem, Ext.add]; done) | (simp [go_sem, Ext.add]; omega) | omega)) (grew_plus (grew_refl _)) | exact blk_grew (blk_new (by first | (simp [go_sem]; done) | (simp [go_sem]; omega) | (simp [go_sem, Ext.add]; done) | (simp [go_sem, Ext.add]; omega) | omega)) (grew_plus (grew_drew (grew_refl _)))), (by first | exact (OwnF.grew O1.out (grew_alloc (grew_refl _))).less (by first | (simp [go_sem]; done) | (simp [go_sem]; omega) | (simp [go_sem, Ext.add]; done) | (simp [go_sem, Ext.add]; omega) | omega) | exact (OwnF.base O1.out (by first | (simp [go_sem]; done) | (simp [go_sem]; omega) | (simp [go_sem, Ext.add]; done) | (simp [go_sem, Ext.add]; omega) | omega) (by first | (simp [go_sem]; done) | (simp [go_sem]; omega) | (simp [go_sem, Ext.add]; done) | (simp [go_sem, Ext.add]; omega) | omega)).less (by first | (simp [go_sem]; done) | (simp [go_sem]; omega) | (simp [go_sem, Ext.add]; done) | (simp [go_sem, Ext.add]; omega) | omega)), by (repeat (first | with_reducible exact grew_refl _ | with_reducible assumption | with_reducible refine grew_split ?_ | with_reducible refine grew_mk ?_ | with_reducible refine grew_plus ?_ | with_reducible refine grew_alloc ?_ | with_reducible refine grew_drew ?_ | (with_reducible refine grew_set ?_ (by first | exact Nat.le_refl _ | omega | (simp [go_sem]; done) | (simp [go_sem]; omega)))))⟩
  rintro b1 A1 c1 A1' d1 W1 ⟨hB1, hO1, hg1⟩
  have HB1 := hid hB1
  have O1 := hid (DayV.At.mk (v := ⟨p.1, A1', d1⟩) hO1.sl (Nat.le_trans HL.out (by decide)))
  have HG1 := hid hg1
  have HBD1 := hid (blk_grew HBD.out hg1)
  have HBS1 := hid (blk_grew HBS.out hg1)
  have HV1 := hid (HV2.out.grew hg1)
  have hlt1 := hB1.lt
  have hlt2 := HBS1.out.lt
  have hlt3 := HBD1.out.lt
  clear hq0 hq1 hq2 hq3 hq4 hq5 hq6 hs0 hs1 KEEP hlt hlt0 hB1 hO1 hg1
  (have hq0 := HBD1.out.cell 0; have hq1 := HBD1.out.cell 1; have hq2 := HBD1.out.cell 2; have hq3 := HBD1.out.cell 3; have hq4 := HBD1.out.cell 4; have hq5 := HBD1.out.cell 5; have hq6 := HBD1.out.cell 6; simp [go_sem] at hq0 hq1 hq2 hq3 hq4 hq5 hq6)
  go_wp2_with fail
  refine (l_toSurveyDay v _ (HV1.out.grew (by (repeat (first | with_reducible exact grew_refl _ | with_reducible assumption | with_reducible refine grew_split ?_ | with_reducible refine grew_mk ?_ | with_reducible refine grew_plus ?_ | with_reducible refine grew_alloc ?_ | with_reducible refine grew_drew ?_ | (with_reducible refine grew_set ?_ (by first | exact Nat.le_refl _ | omega | (simp [go_sem]; done) | (simp [go_sem]; omega))))))) hl').mono ?_
  rintro e w' ⟨⟨AU2, cU2, rfl, -, hoU2⟩, gxU2, rfl⟩
  (try rw [plus_plus] at hoU2)
  have U2o := hid hoU2
  clear hoU2
  go_wp2_with fail
  generalize hb2 : W1.heap.size + gxU2.objs.size = b2
  refine wp_opaque (fun wr => Blk wr b2 29 #[.int .i64 v.core.minute, .int .i64 v.core.state, .slice AU2 v.core.lines.length cU2, .int .i64 v.core.line, .int .i64 v.core.since, .int .i64 v.core.cast, .int .i64 v.core.fuel] ∧ DayOwn wr W1.heap.size AU2 cU2 v.core.lines ∧ ∃ g, wr = plus W1 g) ⟨blk_new (by subst hb2; simp [go_sem]), U2o.out.grew (by (repeat (first | with_reducible exact grew_refl _ | with_reducible assumption | with_reducible refine grew_split ?_ | with_reducible refine grew_mk ?_ | with_reducible refine grew_plus ?_ | with_reducible refine grew_alloc ?_ | with_reducible refine grew_drew ?_ | (with_reducible refine grew_set ?_ (by first | exact Nat.le_refl _ | omega | (simp [go_sem]; done) | (simp [go_sem]; omega)))))), by (repeat (first | with_reducible exact grew_refl _ | with_reducible assumption | with_reducible refine grew_split ?_ | with_reducible refine grew_mk ?_ | with_reducible refine grew_plus ?_ | with_reducible refine grew_alloc ?_ | with_reducible refine grew_drew ?_ | (with_reducible refine grew_set ?_ (by first | exact Nat.le_refl _ | omega | (simp [go_sem]; done) | (simp [go_sem]; omega)))))⟩ ?_
  clear hb2 U2o hq0 hq1 hq2 hq3 hq4 hq5 hq6
  rintro W2 ⟨hB2, hU2, hg2⟩
  have HB2 := hid hB2
  have U2o := hid hU2
  have HG2 := hid hg2
  have U2 := hid (DayV.At.mk (v := ⟨v.core, AU2, cU2⟩) hU2.sl (Nat.le_trans hl' (by decide)))
  have HBS2 := hid (blk_grew HBS1.out hg2)
  have hlt4 := hB2.lt
  have hlt5 := HBS2.out.lt
  (have hx0 := HB2.out.cell 0; have hx1 := HB2.out.cell 1; have hx2 := HB2.out.cell 2; have hx3 := HB2.out.cell 3; have hx4 := HB2.out.cell 4; have hx5 := HB2.out.cell 5; have hx6 := HB2.out.cell 6; simp [go_sem] at hx0 hx1 hx2 hx3 hx4 hx5 hx6)
  have hs0 := HBS2.out.cell 0
  have hs1 := HBS2.out.cell 1
  simp [go_sem] at hs0 hs1
  have KEEP : Hid (∀ W : World, (∃ g, W = plus W2 g) → ((fun w' => w'.cell? ⟨b2, 0, none⟩ = some (.int .i64 v.core.minute) ∧ w'.cell? ⟨b2, 1, none⟩ = some (.int .i64 v.core.state) ∧ w'.cell? ⟨b2, 2, none⟩ = some (.slice AU2 v.core.lines.length cU2) ∧ w'.cell? ⟨b2, 3, none⟩ = some (.int .i64 v.core.line) ∧ w'.cell? ⟨b2, 4, none⟩ = some (.int .i64 v.core.since) ∧ w'.cell? ⟨b2, 5, none⟩ = some (.int .i64 v.core.cast) ∧ w'.cell? ⟨b2, 6, none⟩ = some (.int .i64 v.core.fuel) ∧ w'.cell? ⟨w.heap.size + 1, 0, none⟩ = some (.int .i64 k) ∧ w'.cell? ⟨w.heap.size + 1, 1, none⟩ = some (.int .i64 x))) W) := hid (by
    rintro W ⟨g, rfl⟩
    simp only [cell?_plus _ _ hlt4, cell?_plus _ _ hlt5, hx0, hx1, hx2, hx3, hx4, hx5, hx6, hs0, hs1, and_self])
  clear hB2 hU2 hg2
  refine' cut4 (F := fun b A' c' W => Blk W b 29 #[.int .i64 p.1.minute, .int .i64 p.1.state, .slice A' p.1.lines.length c', .int .i64 p.1.line, .int .i64 p.1.since, .int .i64 p.1.cast, .int .i64 p.1.fuel] ∧ OwnF W2.heap.size 74 2 LineR.row W A' p.1.lines ∧ (∀ k, rowOf A' p.1.lines = some k → k ≠ b) ∧ W2.heap.size ≤ b ∧ (∃ g, W = plus W2 g)) (fun CUT => ?_) ?_
  rotate_left 1
  · go_region_held3 (fun w' => w'.cell? ⟨b2, 0, none⟩ = some (.int .i64 v.core.minute) ∧ w'.cell? ⟨b2, 1, none⟩ = some (.int .i64 v.core.state) ∧ w'.cell? ⟨b2, 2, none⟩ = some (.slice AU2 v.core.lines.length cU2) ∧ w'.cell? ⟨b2, 3, none⟩ = some (.int .i64 v.core.line) ∧ w'.cell? ⟨b2, 4, none⟩ = some (.int .i64 v.core.since) ∧ w'.cell? ⟨b2, 5, none⟩ = some (.int .i64 v.core.cast) ∧ w'.cell? ⟨b2, 6, none⟩ = some (.int .i64 v.core.fuel) ∧ w'.cell? ⟨w.heap.size + 1, 0, none⟩ = some (.int .i64 k) ∧ w'.cell? ⟨w.heap.size + 1, 1, none⟩ = some (.int .i64 x)) (exact KEEP.out _ (by (repeat (first | with_reducible exact grew_refl _ | with_reducible assumption | with_reducible refine grew_split ?_ | with_reducible refine grew_mk ?_ | with_reducible refine grew_plus ?_ | with_reducible refine grew_alloc ?_ | with_reducible refine grew_drew ?_ | (with_reducible refine grew_set ?_ (by first | exact Nat.le_refl _ | omega | (simp [go_sem]; done) | (simp [go_sem]; omega))))))) (first | (go_at_call 32; (refine (l_toDayStep k x _).mono ?_; rintro e w' ⟨rfl, gxS2, rfl⟩)) | (go_at_call 33; (refine (i_StepDay ⟨v.core, AU2, cU2⟩ k x _ (U2.out.grew (by (repeat (first | with_reducible exact grew_refl _ | with_reducible assumption | with_reducible refine grew_split ?_ | with_reducible refine grew_mk ?_ | with_reducible refine grew_plus ?_ | with_reducible refine grew_alloc ?_ | with_reducible refine grew_drew ?_ | (with_reducible refine grew_set ?_ (by first | exact Nat.le_refl _ | omega | (simp [go_sem]; done) | (simp [go_sem]; omega)))))))).mono ?_; rw [HP.out]; rintro e w' ⟨⟨AO2, dO2, rfl, hoO2⟩, gsO2, rfl⟩; (try rw [plus_plus] at hoO2); have O2 := hid hoO2; clear hoO2)))
    · generalize hb : W2.heap.size + (gxS2.add gsO2).objs.size = b
      generalize hW : (plus W2.drew (gxS2.add gsO2)).alloc (.cells #[.int .i64 p.1.minute, .int .i64 p.1.state, .slice AO2 p.1.lines.length dO2, .int .i64 p.1.line, .int .i64 p.1.since, .int .i64 p.1.cast, .int .i64 p.1.fuel] 29) = W
      refine CUT b AO2 dO2 W ?_
      subst hb hW
      exact ⟨(by first | exact blk_new (by first | (simp [go_sem]; done) | (simp [go_sem]; omega) | (simp [go_sem, Ext.add]; done) | (simp [go_sem, Ext.add]; omega) | omega) | exact blk_grew (blk_new (by first | (simp [go_sem]; done) | (simp [go_sem]; omega) | (simp [go_sem, Ext.add]; done) | (simp [go_sem, Ext.add]; omega) | omega)) (grew_plus (grew_refl _)) | exact blk_grew (blk_new (by first | (simp [go_sem]; done) | (simp [go_sem]; omega) | (simp [go_sem, Ext.add]; done) | (simp [go_sem, Ext.add]; omega) | omega)) (grew_plus (grew_drew (grew_refl _)))), (by first | exact (OwnF.grew O2.out (grew_alloc (grew_refl _))).less (by first | (simp [go_sem]; done) | (simp [go_sem]; omega) | (simp [go_sem, Ext.add]; done) | (simp [go_sem, Ext.add]; omega) | omega) | exact (OwnF.base O2.out (by first | (simp [go_sem]; done) | (simp [go_sem]; omega) | (simp [go_sem, Ext.add]; done) | (simp [go_sem, Ext.add]; omega) | omega) (by first | (simp [go_sem]; done) | (simp [go_sem]; omega) | (simp [go_sem, Ext.add]; done) | (simp [go_sem, Ext.add]; omega) | omega)).less (by first | (simp [go_sem]; done) | (simp [go_sem]; omega) | (simp [go_sem, Ext.add]; done) | (simp [go_sem, Ext.add]; omega) | omega)), (fun k hk => by have hz := O2.out.row k hk; simp [go_sem, Ext.add] at hz ⊢; omega), (by first | (simp [go_sem]; done) | (simp [go_sem]; omega) | (simp [go_sem, Ext.add]; done) | (simp [go_sem, Ext.add]; omega) | omega), by (repeat (first | with_reducible exact grew_refl _ | with_reducible assumption | with_reducible refine grew_split ?_ | with_reducible refine grew_mk ?_ | with_reducible refine grew_plus ?_ | with_reducible refine grew_alloc ?_ | with_reducible refine grew_drew ?_ | (with_reducible refine grew_set ?_ (by first | exact Nat.le_refl _ | omega | (simp [go_sem]; done) | (simp [go_sem]; omega)))))⟩
    all_goals
      refine CUT _ AO2 dO2 _ ?_
      exact ⟨(by first | exact blk_new (by first | (simp [go_sem]; done) | (simp [go_sem]; omega) | (simp [go_sem, Ext.add]; done) | (simp [go_sem, Ext.add]; omega) | omega) | exact blk_grew (blk_new (by first | (simp [go_sem]; done) | (simp [go_sem]; omega) | (simp [go_sem, Ext.add]; done) | (simp [go_sem, Ext.add]; omega) | omega)) (grew_plus (grew_refl _)) | exact blk_grew (blk_new (by first | (simp [go_sem]; done) | (simp [go_sem]; omega) | (simp [go_sem, Ext.add]; done) | (simp [go_sem, Ext.add]; omega) | omega)) (grew_plus (grew_drew (grew_refl _)))), (by first | exact (OwnF.grew O2.out (grew_alloc (grew_refl _))).less (by first | (simp [go_sem]; done) | (simp [go_sem]; omega) | (simp [go_sem, Ext.add]; done) | (simp [go_sem, Ext.add]; omega) | omega) | exact (OwnF.base O2.out (by first | (simp [go_sem]; done) | (simp [go_sem]; omega) | (simp [go_sem, Ext.add]; done) | (simp [go_sem, Ext.add]; omega) | omega) (by first | (simp [go_sem]; done) | (simp [go_sem]; omega) | (simp [go_sem, Ext.add]; done) | (simp [go_sem, Ext.add]; omega) | omega)).less (by first | (simp [go_sem]; done) | (simp [go_sem]; omega) | (simp [go_sem, Ext.add]; done) | (simp [go_sem, Ext.add]; omega) | omega)), (fun k hk => by have hz := O2.out.row k hk; simp [go_sem, Ext.add] at hz ⊢; omega), (by first | (simp [go_sem]; done) | (simp [go_sem]; omega) | (simp [go_sem, Ext.add]; done) | (simp [go_sem, Ext.add]; omega) | omega), by (repeat (first | with_reducible exact grew_refl _ | with_reducible assumption | with_reducible refine grew_split ?_ | with_reducible refine grew_mk ?_ | with_reducible refine grew_plus ?_ | with_reducible refine grew_alloc ?_ | with_reducible refine grew_drew ?_ | (with_reducible refine grew_set ?_ (by first | exact Nat.le_refl _ | omega | (simp [go_sem]; done) | (simp [go_sem]; omega)))))⟩
  rintro b3 A2' d2 W3 ⟨hB3, hO2, hR3, hb3, hg3⟩
  have HN3 := hid hb3
  clear hb3
  have HB3 := hid hB3
  have O2 := hid hO2
  have HR3 := hid hR3
  have HG3 := hid hg3
  have HG31 : Hid (∃ g, W3 = plus W1 g) := hid (by obtain ⟨g, rfl⟩ := hg3; exact grew_plus HG2.out)
  have O2a := hid (DayV.At.mk (v := ⟨p.1, A2', d2⟩) hO2.sl (Nat.le_trans HL.out (by decide)))
  have HB13 := hid (blk_grew HB1.out HG31.out)
  have HBD3 := hid (blk_grew HBD1.out HG31.out)
  have HV3 := hid (HV1.out.grew HG31.out)
  have HB23 := hid (blk_grew HB2.out hg3)
  have O13 := hid (O1.out.grew HG31.out)
  have hlt6 := hB3.lt
  have hlt7 := HB13.out.lt
  have hlt8 := HBD3.out.lt
  have hlt9 := HB23.out.lt
  clear KEEP hx0 hx1 hx2 hx3 hx4 hx5 hx6 hs0 hs1 hlt1 hlt2 hlt3 hlt4 hlt5 hB3 hO2 hR3 hg3
  (have hr0 := HB3.out.cell 0; have hr1 := HB3.out.cell 1; have hr2 := HB3.out.cell 2; have hr3 := HB3.out.cell 3; have hr4 := HB3.out.cell 4; have hr5 := HB3.out.cell 5; have hr6 := HB3.out.cell 6; simp [go_sem] at hr0 hr1 hr2 hr3 hr4 hr5 hr6)
  (have ho0 := HB13.out.cell 0; have ho1 := HB13.out.cell 1; have ho2 := HB13.out.cell 2; have ho3 := HB13.out.cell 3; have ho4 := HB13.out.cell 4; have ho5 := HB13.out.cell 5; have ho6 := HB13.out.cell 6; simp [go_sem] at ho0 ho1 ho2 ho3 ho4 ho5 ho6)
  go_wp2_with fail
  refine (l_eqSurveyDay p.1 A2' A1' d2 d1 _ (O2a.out.grew (by (repeat (first | with_reducible exact grew_refl _ | with_reducible assumption | with_reducible refine grew_split ?_ | with_reducible refine grew_mk ?_ | with_reducible refine grew_plus ?_ | with_reducible refine grew_alloc ?_ | with_reducible refine grew_drew ?_ | (with_reducible refine grew_set ?_ (by first | exact Nat.le_refl _ | omega | (simp [go_sem]; done) | (simp [go_sem]; omega))))))) (O13.out.grew (by (repeat (first | with_reducible exact grew_refl _ | with_reducible assumption | with_reducible refine grew_split ?_ | with_reducible refine grew_mk ?_ | with_reducible refine grew_plus ?_ | with_reducible refine grew_alloc ?_ | with_reducible refine grew_drew ?_ | (with_reducible refine grew_set ?_ (by first | exact Nat.le_refl _ | omega | (simp [go_sem]; done) | (simp [go_sem]; omega)))))))).mono ?_
  rintro e w' ⟨rfl, gxe, rfl⟩
  go_wp2_with fail
  clear hr0 hr1 hr2 hr3 hr4 hr5 hr6 ho0 ho1 ho2 ho3 ho4 ho5 ho6
  (have hx0 := HB23.out.cell 0; have hx1 := HB23.out.cell 1; have hx2 := HB23.out.cell 2; have hx3 := HB23.out.cell 3; have hx4 := HB23.out.cell 4; have hx5 := HB23.out.cell 5; have hx6 := HB23.out.cell 6; simp [go_sem] at hx0 hx1 hx2 hx3 hx4 hx5 hx6)
  (have hq0 := HBD3.out.cell 0; have hq1 := HBD3.out.cell 1; have hq2 := HBD3.out.cell 2; have hq3 := HBD3.out.cell 3; have hq4 := HBD3.out.cell 4; have hq5 := HBD3.out.cell 5; have hq6 := HBD3.out.cell 6; simp [go_sem] at hq0 hq1 hq2 hq3 hq4 hq5 hq6)
  have KEEP : Hid (∀ W : World, (∃ g, W = plus W3 g) → ((fun w' => w'.cell? ⟨b2, 0, none⟩ = some (.int .i64 v.core.minute) ∧ w'.cell? ⟨b2, 1, none⟩ = some (.int .i64 v.core.state) ∧ w'.cell? ⟨b2, 2, none⟩ = some (.slice AU2 v.core.lines.length cU2) ∧ w'.cell? ⟨b2, 3, none⟩ = some (.int .i64 v.core.line) ∧ w'.cell? ⟨b2, 4, none⟩ = some (.int .i64 v.core.since) ∧ w'.cell? ⟨b2, 5, none⟩ = some (.int .i64 v.core.cast) ∧ w'.cell? ⟨b2, 6, none⟩ = some (.int .i64 v.core.fuel) ∧ w'.cell? ⟨w.heap.size, 0, none⟩ = some (.int .i64 v.core.minute) ∧ w'.cell? ⟨w.heap.size, 1, none⟩ = some (.int .i64 v.core.state) ∧ w'.cell? ⟨w.heap.size, 2, none⟩ = some (.slice v.A v.core.lines.length v.c) ∧ w'.cell? ⟨w.heap.size, 3, none⟩ = some (.int .i64 v.core.line) ∧ w'.cell? ⟨w.heap.size, 4, none⟩ = some (.int .i64 v.core.since) ∧ w'.cell? ⟨w.heap.size, 5, none⟩ = some (.int .i64 v.core.cast) ∧ w'.cell? ⟨w.heap.size, 6, none⟩ = some (.int .i64 v.core.fuel))) W) := hid (by
    rintro W ⟨g, rfl⟩
    simp only [cell?_plus _ _ hlt9, cell?_plus _ _ hlt8, hx0, hx1, hx2, hx3, hx4, hx5, hx6, hq0, hq1, hq2, hq3, hq4, hq5, hq6, and_self])
  go_region_held3 (fun w' => w'.cell? ⟨b2, 0, none⟩ = some (.int .i64 v.core.minute) ∧ w'.cell? ⟨b2, 1, none⟩ = some (.int .i64 v.core.state) ∧ w'.cell? ⟨b2, 2, none⟩ = some (.slice AU2 v.core.lines.length cU2) ∧ w'.cell? ⟨b2, 3, none⟩ = some (.int .i64 v.core.line) ∧ w'.cell? ⟨b2, 4, none⟩ = some (.int .i64 v.core.since) ∧ w'.cell? ⟨b2, 5, none⟩ = some (.int .i64 v.core.cast) ∧ w'.cell? ⟨b2, 6, none⟩ = some (.int .i64 v.core.fuel) ∧ w'.cell? ⟨w.heap.size, 0, none⟩ = some (.int .i64 v.core.minute) ∧ w'.cell? ⟨w.heap.size, 1, none⟩ = some (.int .i64 v.core.state) ∧ w'.cell? ⟨w.heap.size, 2, none⟩ = some (.slice v.A v.core.lines.length v.c) ∧ w'.cell? ⟨w.heap.size, 3, none⟩ = some (.int .i64 v.core.line) ∧ w'.cell? ⟨w.heap.size, 4, none⟩ = some (.int .i64 v.core.since) ∧ w'.cell? ⟨w.heap.size, 5, none⟩ = some (.int .i64 v.core.cast) ∧ w'.cell? ⟨w.heap.size, 6, none⟩ = some (.int .i64 v.core.fuel)) (exact KEEP.out _ (by (repeat (first | with_reducible exact grew_refl _ | with_reducible assumption | with_reducible refine grew_split ?_ | with_reducible refine grew_mk ?_ | with_reducible refine grew_plus ?_ | with_reducible refine grew_alloc ?_ | with_reducible refine grew_drew ?_ | (with_reducible refine grew_set ?_ (by first | exact Nat.le_refl _ | omega | (simp [go_sem]; done) | (simp [go_sem]; omega))))))) (first | (go_at_call 14; (refine (l_toSurveyDay v _ (HV3.out.grew (by (repeat (first | with_reducible exact grew_refl _ | with_reducible assumption | with_reducible refine grew_split ?_ | with_reducible refine grew_mk ?_ | with_reducible refine grew_plus ?_ | with_reducible refine grew_alloc ?_ | with_reducible refine grew_drew ?_ | (with_reducible refine grew_set ?_ (by first | exact Nat.le_refl _ | omega | (simp [go_sem]; done) | (simp [go_sem]; omega))))))) hl').mono ?_; rintro e w' ⟨⟨AU3, cU3, rfl, huU3, -⟩, gxU3, rfl⟩; (try rw [plus_plus] at huU3); have U3 := hid huU3; clear huU3)) | (go_at_call 16; refine (l_eqSurveyDay v.core AU2 AU3 cU2 cU3 _ ((U2.out.grew HG3.out).grew (by (repeat (first | with_reducible exact grew_refl _ | with_reducible assumption | with_reducible refine grew_split ?_ | with_reducible refine grew_mk ?_ | with_reducible refine grew_plus ?_ | with_reducible refine grew_alloc ?_ | with_reducible refine grew_drew ?_ | (with_reducible refine grew_set ?_ (by first | exact Nat.le_refl _ | omega | (simp [go_sem]; done) | (simp [go_sem]; omega))))))) (U3.out.grew (by (repeat (first | with_reducible exact grew_refl _ | with_reducible assumption | with_reducible refine grew_split ?_ | with_reducible refine grew_mk ?_ | with_reducible refine grew_plus ?_ | with_reducible refine grew_alloc ?_ | with_reducible refine grew_drew ?_ | (with_reducible refine grew_set ?_ (by first | exact Nat.le_refl _ | omega | (simp [go_sem]; done) | (simp [go_sem]; omega)))))))).mono ?_; rintro e w' ⟨rfl, gxf, rfl⟩))
  go_wp2_with fail
  have HU3 := hid (U2o.out.grew HG3.out)
  refine (l_markSurveyDay W1.heap.size ⟨v.core, AU2, cU2⟩ 1 _ (HU3.out.f.grew (by (repeat (first | with_reducible exact grew_refl _ | with_reducible assumption | with_reducible refine grew_split ?_ | with_reducible refine grew_mk ?_ | with_reducible refine grew_plus ?_ | with_reducible refine grew_alloc ?_ | with_reducible refine grew_drew ?_ | (with_reducible refine grew_set ?_ (by first | exact Nat.le_refl _ | omega | (simp [go_sem]; done) | (simp [go_sem]; omega))))))) (by simp only; omega) (by omega) (by omega)).mono ?_
  have hg31 := HG31.out
  rintro e W4 ⟨rfl, -, hG⟩
  have hR2 := U2o.out.f.row
  have hg4 := grew_grown (w0 := W1) (by (repeat (first | with_reducible exact grew_refl _ | with_reducible assumption | with_reducible refine grew_split ?_ | with_reducible refine grew_mk ?_ | with_reducible refine grew_plus ?_ | with_reducible refine grew_alloc ?_ | with_reducible refine grew_drew ?_ | (with_reducible refine grew_set ?_ (by first | exact Nat.le_refl _ | omega | (simp [go_sem]; done) | (simp [go_sem]; omega)))))) hG (fun k hk => (hR2 k hk).1)
  have hg32 := (below_of_grew HG3.out).size
  have hB34 := (blk_grew HB3.out (by (repeat (first | with_reducible exact grew_refl _ | with_reducible assumption | with_reducible refine grew_split ?_ | with_reducible refine grew_mk ?_ | with_reducible refine grew_plus ?_ | with_reducible refine grew_alloc ?_ | with_reducible refine grew_drew ?_ | (with_reducible refine grew_set ?_ (by first | exact Nat.le_refl _ | omega | (simp [go_sem]; done) | (simp [go_sem]; omega))))))).grown hG (fun e => by have h1 := (hR2 _ e.symm).2; have h2 := HN3.out; omega)
  have hO24 := (O2.out.grew (by (repeat (first | with_reducible exact grew_refl _ | with_reducible assumption | with_reducible refine grew_split ?_ | with_reducible refine grew_mk ?_ | with_reducible refine grew_plus ?_ | with_reducible refine grew_alloc ?_ | with_reducible refine grew_drew ?_ | (with_reducible refine grew_set ?_ (by first | exact Nat.le_refl _ | omega | (simp [go_sem]; done) | (simp [go_sem]; omega))))))).kept hG (fun k hk => (hR2 k hk).2)
  have HB34 := hid hB34
  have O24 := hid hO24
  have HG4 := hid hg4
  have HB14 := hid (blk_grew HB1.out hg4)
  have HBD4 := hid (blk_grew HBD1.out hg4)
  have HBS4 := hid (blk_grew HBS1.out hg4)
  have HV4 := hid (HV1.out.grew hg4)
  have O14 := hid (O1.out.grew hg4)
  have O24a := hid (DayV.At.mk (v := ⟨p.1, A2', d2⟩) hO24.sl (Nat.le_trans HL.out (by decide)))
  have hlt1 := HB34.out.lt
  have hlt2 := HB14.out.lt
  have hlt3 := HBD4.out.lt
  clear KEEP hx0 hx1 hx2 hx3 hx4 hx5 hx6 hq0 hq1 hq2 hq3 hq4 hq5 hq6 hlt6 hlt7 hlt8 hlt9 hg31 hG hg4 hB34 hO24 hR2 hg32
  (have hr0 := HB34.out.cell 0; have hr1 := HB34.out.cell 1; have hr2 := HB34.out.cell 2; have hr3 := HB34.out.cell 3; have hr4 := HB34.out.cell 4; have hr5 := HB34.out.cell 5; have hr6 := HB34.out.cell 6; simp [go_sem] at hr0 hr1 hr2 hr3 hr4 hr5 hr6)
  (have ho0 := HB14.out.cell 0; have ho1 := HB14.out.cell 1; have ho2 := HB14.out.cell 2; have ho3 := HB14.out.cell 3; have ho4 := HB14.out.cell 4; have ho5 := HB14.out.cell 5; have ho6 := HB14.out.cell 6; simp [go_sem] at ho0 ho1 ho2 ho3 ho4 ho5 ho6)
  go_wp2_with fail
  refine (l_eqSurveyDay p.1 A2' A1' d2 d1 _ (O24a.out.grew (by (repeat (first | with_reducible exact grew_refl _ | with_reducible assumption | with_reducible refine grew_split ?_ | with_reducible refine grew_mk ?_ | with_reducible refine grew_plus ?_ | with_reducible refine grew_alloc ?_ | with_reducible refine grew_drew ?_ | (with_reducible refine grew_set ?_ (by first | exact Nat.le_refl _ | omega | (simp [go_sem]; done) | (simp [go_sem]; omega))))))) (O14.out.grew (by (repeat (first | with_reducible exact grew_refl _ | with_reducible assumption | with_reducible refine grew_split ?_ | with_reducible refine grew_mk ?_ | with_reducible refine grew_plus ?_ | with_reducible refine grew_alloc ?_ | with_reducible refine grew_drew ?_ | (with_reducible refine grew_set ?_ (by first | exact Nat.le_refl _ | omega | (simp [go_sem]; done) | (simp [go_sem]; omega)))))))).mono ?_
  rintro e w' ⟨rfl, gxh, rfl⟩
  go_wp2_with fail
  refine (l_markSurveyDay W2.heap.size ⟨p.1, A2', d2⟩ 1 _ (O24.out.grew (by (repeat (first | with_reducible exact grew_refl _ | with_reducible assumption | with_reducible refine grew_split ?_ | with_reducible refine grew_mk ?_ | with_reducible refine grew_plus ?_ | with_reducible refine grew_alloc ?_ | with_reducible refine grew_drew ?_ | (with_reducible refine grew_set ?_ (by first | exact Nat.le_refl _ | omega | (simp [go_sem]; done) | (simp [go_sem]; omega))))))) (by have := HL.out; simp only; omega) (by omega) (by omega)).mono ?_
  rintro e W5 ⟨rfl, hM, hG⟩
  have hR2 := O2.out.row
  have hg21 := (below_of_grew HG2.out).size
  have hg5 := grew_grown (w0 := W1) (by have := HG4.out; (repeat (first | with_reducible exact grew_refl _ | with_reducible assumption | with_reducible refine grew_split ?_ | with_reducible refine grew_mk ?_ | with_reducible refine grew_plus ?_ | with_reducible refine grew_alloc ?_ | with_reducible refine grew_drew ?_ | (with_reducible refine grew_set ?_ (by first | exact Nat.le_refl _ | omega | (simp [go_sem]; done) | (simp [go_sem]; omega)))))) hG (fun k hk => Nat.le_trans hg21 (hR2 k hk).1)
  have hB35 := (blk_grew HB34.out (by (repeat (first | with_reducible exact grew_refl _ | with_reducible assumption | with_reducible refine grew_split ?_ | with_reducible refine grew_mk ?_ | with_reducible refine grew_plus ?_ | with_reducible refine grew_alloc ?_ | with_reducible refine grew_drew ?_ | (with_reducible refine grew_set ?_ (by first | exact Nat.le_refl _ | omega | (simp [go_sem]; done) | (simp [go_sem]; omega))))))).grown hG (fun e => HR3.out _ e.symm rfl)
  have HB35 := hid hB35
  have HM := hid hM
  have HG5 := hid hg5
  have HB15 := hid (blk_grew HB1.out hg5)
  have HBD5 := hid (blk_grew HBD1.out hg5)
  have HBS5 := hid (blk_grew HBS1.out hg5)
  have HV5 := hid (HV1.out.grew hg5)
  have O15 := hid (O1.out.grew hg5)
  have hlt4 := HB35.out.lt
  have hlt5 := HBD5.out.lt
  have hlt6 := HBS5.out.lt
  clear hr0 hr1 hr2 hr3 hr4 hr5 hr6 ho0 ho1 ho2 ho3 ho4 ho5 ho6 hlt1 hlt2 hlt3 hG hg5 hB35 hM hR2 hg21
  (have hr0 := HB35.out.cell 0; have hr1 := HB35.out.cell 1; have hr2 := HB35.out.cell 2; have hr3 := HB35.out.cell 3; have hr4 := HB35.out.cell 4; have hr5 := HB35.out.cell 5; have hr6 := HB35.out.cell 6; simp [go_sem] at hr0 hr1 hr2 hr3 hr4 hr5 hr6)
  (have hq0 := HBD5.out.cell 0; have hq1 := HBD5.out.cell 1; have hq2 := HBD5.out.cell 2; have hq3 := HBD5.out.cell 3; have hq4 := HBD5.out.cell 4; have hq5 := HBD5.out.cell 5; have hq6 := HBD5.out.cell 6; simp [go_sem] at hq0 hq1 hq2 hq3 hq4 hq5 hq6)
  have hs0 := HBS5.out.cell 0
  have hs1 := HBS5.out.cell 1
  simp [go_sem] at hs0 hs1
  go_wp2_with fail
  refine (l_heldSurveyDay ⟨p.1, A2', d2⟩ 1 _ (HM.out.sl.grew (by (repeat (first | with_reducible exact grew_refl _ | with_reducible assumption | with_reducible refine grew_split ?_ | with_reducible refine grew_mk ?_ | with_reducible refine grew_plus ?_ | with_reducible refine grew_alloc ?_ | with_reducible refine grew_drew ?_ | (with_reducible refine grew_set ?_ (by first | exact Nat.le_refl _ | omega | (simp [go_sem]; done) | (simp [go_sem]; omega))))))) (by have := HL.out; simp only; omega) (by omega) (by omega)).mono ?_
  (rintro e w' ⟨rfl, gx, rfl⟩)
  go_wp2_with fail
  refine wp_opaque (fun wr => ∃ g, wr = plus W5 g) (by (repeat (first | with_reducible exact grew_refl _ | with_reducible assumption | with_reducible refine grew_split ?_ | with_reducible refine grew_mk ?_ | with_reducible refine grew_plus ?_ | with_reducible refine grew_alloc ?_ | with_reducible refine grew_drew ?_ | (with_reducible refine grew_set ?_ (by first | exact Nat.le_refl _ | omega | (simp [go_sem]; done) | (simp [go_sem]; omega)))))) ?_
  clear hr0 hr1 hr2 hr3 hr4 hr5 hr6 hq0 hq1 hq2 hq3 hq4 hq5 hq6 hs0 hs1 hlt4 hlt5 hlt6
  rintro W7 hg7
  have HBD7 := hid (blk_grew HBD5.out hg7)
  have HBS7 := hid (blk_grew HBS5.out hg7)
  have HV7 := hid (HV5.out.grew hg7)
  have HG7 := hid hg7
  have hlt5 := HBD7.out.lt
  have hlt6 := HBS7.out.lt
  clear hg7
  (have hq0 := HBD7.out.cell 0; have hq1 := HBD7.out.cell 1; have hq2 := HBD7.out.cell 2; have hq3 := HBD7.out.cell 3; have hq4 := HBD7.out.cell 4; have hq5 := HBD7.out.cell 5; have hq6 := HBD7.out.cell 6; simp [go_sem] at hq0 hq1 hq2 hq3 hq4 hq5 hq6)
  have hs0 := HBS7.out.cell 0
  have hs1 := HBS7.out.cell 1
  simp [go_sem] at hs0 hs1
  have KEEP : Hid (∀ W : World, (∃ g, W = plus W7 g) → ((fun w' => w'.cell? ⟨w.heap.size, 0, none⟩ = some (.int .i64 v.core.minute) ∧ w'.cell? ⟨w.heap.size, 1, none⟩ = some (.int .i64 v.core.state) ∧ w'.cell? ⟨w.heap.size, 2, none⟩ = some (.slice v.A v.core.lines.length v.c) ∧ w'.cell? ⟨w.heap.size, 3, none⟩ = some (.int .i64 v.core.line) ∧ w'.cell? ⟨w.heap.size, 4, none⟩ = some (.int .i64 v.core.since) ∧ w'.cell? ⟨w.heap.size, 5, none⟩ = some (.int .i64 v.core.cast) ∧ w'.cell? ⟨w.heap.size, 6, none⟩ = some (.int .i64 v.core.fuel) ∧ w'.cell? ⟨w.heap.size + 1, 0, none⟩ = some (.int .i64 k) ∧ w'.cell? ⟨w.heap.size + 1, 1, none⟩ = some (.int .i64 x))) W) := hid (by
    rintro W ⟨g, rfl⟩
    simp only [cell?_plus _ _ hlt5, cell?_plus _ _ hlt6, hq0, hq1, hq2, hq3, hq4, hq5, hq6, hs0, hs1, and_self])
  refine' cut6 (F := fun b _ _ A' c' W => Blk W b 29 #[.int .i64 p.1.minute, .int .i64 p.1.state, .slice A' p.1.lines.length c', .int .i64 p.1.line, .int .i64 p.1.since, .int .i64 p.1.cast, .int .i64 p.1.fuel] ∧ OwnF W7.heap.size 74 2 LineR.row W A' p.1.lines ∧ (∃ g, W = plus W7 g)) (fun CUT => ?_) ?_
  rotate_left 1
  · go_region_held3 (fun w' => w'.cell? ⟨w.heap.size, 0, none⟩ = some (.int .i64 v.core.minute) ∧ w'.cell? ⟨w.heap.size, 1, none⟩ = some (.int .i64 v.core.state) ∧ w'.cell? ⟨w.heap.size, 2, none⟩ = some (.slice v.A v.core.lines.length v.c) ∧ w'.cell? ⟨w.heap.size, 3, none⟩ = some (.int .i64 v.core.line) ∧ w'.cell? ⟨w.heap.size, 4, none⟩ = some (.int .i64 v.core.since) ∧ w'.cell? ⟨w.heap.size, 5, none⟩ = some (.int .i64 v.core.cast) ∧ w'.cell? ⟨w.heap.size, 6, none⟩ = some (.int .i64 v.core.fuel) ∧ w'.cell? ⟨w.heap.size + 1, 0, none⟩ = some (.int .i64 k) ∧ w'.cell? ⟨w.heap.size + 1, 1, none⟩ = some (.int .i64 x)) (exact KEEP.out _ (by (repeat (first | with_reducible exact grew_refl _ | with_reducible assumption | with_reducible refine grew_split ?_ | with_reducible refine grew_mk ?_ | with_reducible refine grew_plus ?_ | with_reducible refine grew_alloc ?_ | with_reducible refine grew_drew ?_ | (with_reducible refine grew_set ?_ (by first | exact Nat.le_refl _ | omega | (simp [go_sem]; done) | (simp [go_sem]; omega))))))) (first | (go_at_call 14; (refine (l_toSurveyDay v _ (HV7.out.grew (by (repeat (first | with_reducible exact grew_refl _ | with_reducible assumption | with_reducible refine grew_split ?_ | with_reducible refine grew_mk ?_ | with_reducible refine grew_plus ?_ | with_reducible refine grew_alloc ?_ | with_reducible refine grew_drew ?_ | (with_reducible refine grew_set ?_ (by first | exact Nat.le_refl _ | omega | (simp [go_sem]; done) | (simp [go_sem]; omega))))))) hl').mono ?_; rintro e w' ⟨⟨AU4, cU4, rfl, huU4, -⟩, gxU4, rfl⟩; (try rw [plus_plus] at huU4); have U4 := hid huU4; clear huU4)) | (go_at_call 32; (refine (l_toDayStep k x _).mono ?_; rintro e w' ⟨rfl, gxS4, rfl⟩)) | (go_at_call 33; (refine (i_StepDay ⟨v.core, AU4, cU4⟩ k x _ (U4.out.grew (by (repeat (first | with_reducible exact grew_refl _ | with_reducible assumption | with_reducible refine grew_split ?_ | with_reducible refine grew_mk ?_ | with_reducible refine grew_plus ?_ | with_reducible refine grew_alloc ?_ | with_reducible refine grew_drew ?_ | (with_reducible refine grew_set ?_ (by first | exact Nat.le_refl _ | omega | (simp [go_sem]; done) | (simp [go_sem]; omega)))))))).mono ?_; rw [HP.out]; rintro e w' ⟨⟨AO5, dO5, rfl, hoO5⟩, gsO5, rfl⟩; (try rw [plus_plus] at hoO5); have O5 := hid hoO5; clear hoO5)))
    · generalize hb : W7.heap.size + ((gxU4.add gxS4).add gsO5).objs.size = b
      generalize hW : (plus W7.drew ((gxU4.add gxS4).add gsO5)).alloc (.cells #[.int .i64 p.1.minute, .int .i64 p.1.state, .slice AO5 p.1.lines.length dO5, .int .i64 p.1.line, .int .i64 p.1.since, .int .i64 p.1.cast, .int .i64 p.1.fuel] 29) = W
      refine CUT b AU4 cU4 AO5 dO5 W ?_
      subst hb hW
      exact ⟨(by first | exact blk_new (by first | (simp [go_sem]; done) | (simp [go_sem]; omega) | (simp [go_sem, Ext.add]; done) | (simp [go_sem, Ext.add]; omega) | omega) | exact blk_grew (blk_new (by first | (simp [go_sem]; done) | (simp [go_sem]; omega) | (simp [go_sem, Ext.add]; done) | (simp [go_sem, Ext.add]; omega) | omega)) (grew_plus (grew_refl _)) | exact blk_grew (blk_new (by first | (simp [go_sem]; done) | (simp [go_sem]; omega) | (simp [go_sem, Ext.add]; done) | (simp [go_sem, Ext.add]; omega) | omega)) (grew_plus (grew_drew (grew_refl _)))), (by first | exact (OwnF.grew O5.out (grew_alloc (grew_refl _))).less (by first | (simp [go_sem]; done) | (simp [go_sem]; omega) | (simp [go_sem, Ext.add]; done) | (simp [go_sem, Ext.add]; omega) | omega) | exact (OwnF.base O5.out (by first | (simp [go_sem]; done) | (simp [go_sem]; omega) | (simp [go_sem, Ext.add]; done) | (simp [go_sem, Ext.add]; omega) | omega) (by first | (simp [go_sem]; done) | (simp [go_sem]; omega) | (simp [go_sem, Ext.add]; done) | (simp [go_sem, Ext.add]; omega) | omega)).less (by first | (simp [go_sem]; done) | (simp [go_sem]; omega) | (simp [go_sem, Ext.add]; done) | (simp [go_sem, Ext.add]; omega) | omega)), by (repeat (first | with_reducible exact grew_refl _ | with_reducible assumption | with_reducible refine grew_split ?_ | with_reducible refine grew_mk ?_ | with_reducible refine grew_plus ?_ | with_reducible refine grew_alloc ?_ | with_reducible refine grew_drew ?_ | (with_reducible refine grew_set ?_ (by first | exact Nat.le_refl _ | omega | (simp [go_sem]; done) | (simp [go_sem]; omega)))))⟩
    all_goals
      refine CUT _ AU4 cU4 AO5 dO5 _ ?_
      exact ⟨(by first | exact blk_new (by first | (simp [go_sem]; done) | (simp [go_sem]; omega) | (simp [go_sem, Ext.add]; done) | (simp [go_sem, Ext.add]; omega) | omega) | exact blk_grew (blk_new (by first | (simp [go_sem]; done) | (simp [go_sem]; omega) | (simp [go_sem, Ext.add]; done) | (simp [go_sem, Ext.add]; omega) | omega)) (grew_plus (grew_refl _)) | exact blk_grew (blk_new (by first | (simp [go_sem]; done) | (simp [go_sem]; omega) | (simp [go_sem, Ext.add]; done) | (simp [go_sem, Ext.add]; omega) | omega)) (grew_plus (grew_drew (grew_refl _)))), (by first | exact (OwnF.grew O5.out (grew_alloc (grew_refl _))).less (by first | (simp [go_sem]; done) | (simp [go_sem]; omega) | (simp [go_sem, Ext.add]; done) | (simp [go_sem, Ext.add]; omega) | omega) | exact (OwnF.base O5.out (by first | (simp [go_sem]; done) | (simp [go_sem]; omega) | (simp [go_sem, Ext.add]; done) | (simp [go_sem, Ext.add]; omega) | omega) (by first | (simp [go_sem]; done) | (simp [go_sem]; omega) | (simp [go_sem, Ext.add]; done) | (simp [go_sem, Ext.add]; omega) | omega)).less (by first | (simp [go_sem]; done) | (simp [go_sem]; omega) | (simp [go_sem, Ext.add]; done) | (simp [go_sem, Ext.add]; omega) | omega)), by (repeat (first | with_reducible exact grew_refl _ | with_reducible assumption | with_reducible refine grew_split ?_ | with_reducible refine grew_mk ?_ | with_reducible refine grew_plus ?_ | with_reducible refine grew_alloc ?_ | with_reducible refine grew_drew ?_ | (with_reducible refine grew_set ?_ (by first | exact Nat.le_refl _ | omega | (simp [go_sem]; done) | (simp [go_sem]; omega)))))⟩
  rintro b6 A6 c6 A6' d6 W6 ⟨hB6, hO6, hg76⟩
  have hg6 : ∃ g, W6 = plus W5 g := by obtain ⟨_, rfl⟩ := hg76; exact grew_plus HG7.out
  have HB6 := hid hB6
  have O6 := hid (DayV.At.mk (v := ⟨p.1, A6', d6⟩) hO6.sl (Nat.le_trans HL.out (by decide)))
  have HB16 := hid (blk_grew HB15.out hg6)
  have HB36 := hid (blk_grew HB35.out hg6)
  have O16 := hid (O15.out.grew hg6)
  have HM6 := hid (HM.out.grew hg6)
  have hlt1 := hB6.lt
  have hlt2 := HB16.out.lt
  have hlt3 := HB36.out.lt
  have HGW : Hid (∃ g, W6 = plus w g) := hid (by
    obtain ⟨_, rfl⟩ := hg6
    refine grew_plus ?_
    obtain ⟨_, h5⟩ := HG5.out
    obtain ⟨_, h1⟩ := HG1.out
    obtain ⟨_, h0⟩ := HG.out
    rw [h5, h1, h0, plus_plus, plus_plus]
    exact ⟨_, rfl⟩)
  clear KEEP hq0 hq1 hq2 hq3 hq4 hq5 hq6 hs0 hs1 hlt5 hlt6 hB6 hO6 hg6 hg76
  (have hr0 := HB6.out.cell 0; have hr1 := HB6.out.cell 1; have hr2 := HB6.out.cell 2; have hr3 := HB6.out.cell 3; have hr4 := HB6.out.cell 4; have hr5 := HB6.out.cell 5; have hr6 := HB6.out.cell 6; simp [go_sem] at hr0 hr1 hr2 hr3 hr4 hr5 hr6)
  (have ho0 := HB16.out.cell 0; have ho1 := HB16.out.cell 1; have ho2 := HB16.out.cell 2; have ho3 := HB16.out.cell 3; have ho4 := HB16.out.cell 4; have ho5 := HB16.out.cell 5; have ho6 := HB16.out.cell 6; simp [go_sem] at ho0 ho1 ho2 ho3 ho4 ho5 ho6)
  go_wp2_with fail
  refine (l_eqSurveyDay p.1 A6' A1' d6 d1 _ (O6.out.grew (by (repeat (first | with_reducible exact grew_refl _ | with_reducible assumption | with_reducible refine grew_split ?_ | with_reducible refine grew_mk ?_ | with_reducible refine grew_plus ?_ | with_reducible refine grew_alloc ?_ | with_reducible refine grew_drew ?_ | (with_reducible refine grew_set ?_ (by first | exact Nat.le_refl _ | omega | (simp [go_sem]; done) | (simp [go_sem]; omega))))))) (O16.out.grew (by (repeat (first | with_reducible exact grew_refl _ | with_reducible assumption | with_reducible refine grew_split ?_ | with_reducible refine grew_mk ?_ | with_reducible refine grew_plus ?_ | with_reducible refine grew_alloc ?_ | with_reducible refine grew_drew ?_ | (with_reducible refine grew_set ?_ (by first | exact Nat.le_refl _ | omega | (simp [go_sem]; done) | (simp [go_sem]; omega)))))))).mono ?_
  rintro e w' ⟨rfl, gxi, rfl⟩
  clear hr0 hr1 hr2 hr3 hr4 hr5 hr6 ho0 ho1 ho2 ho3 ho4 ho5 ho6 hlt1 hlt2
  (have hr0 := HB36.out.cell 0; have hr1 := HB36.out.cell 1; have hr2 := HB36.out.cell 2; have hr3 := HB36.out.cell 3; have hr4 := HB36.out.cell 4; have hr5 := HB36.out.cell 5; have hr6 := HB36.out.cell 6; simp [go_sem] at hr0 hr1 hr2 hr3 hr4 hr5 hr6)
  go_wp2_with fail
  refine (l_heldSurveyDay ⟨p.1, A2', d2⟩ 1 _ (HM6.out.sl.grew (by (repeat (first | with_reducible exact grew_refl _ | with_reducible assumption | with_reducible refine grew_split ?_ | with_reducible refine grew_mk ?_ | with_reducible refine grew_plus ?_ | with_reducible refine grew_alloc ?_ | with_reducible refine grew_drew ?_ | (with_reducible refine grew_set ?_ (by first | exact Nat.le_refl _ | omega | (simp [go_sem]; done) | (simp [go_sem]; omega))))))) (by have := HL.out; simp only; omega) (by omega) (by omega)).mono ?_
  (rintro e w' ⟨rfl, gx, rfl⟩)
  go_wp2_with fail
  go_ret
  have hgw := HGW.out
  exact ⟨rfl, by (repeat (first | with_reducible exact grew_refl _ | with_reducible assumption | with_reducible refine grew_split ?_ | with_reducible refine grew_mk ?_ | with_reducible refine grew_plus ?_ | with_reducible refine grew_alloc ?_ | with_reducible refine grew_drew ?_ | (with_reducible refine grew_set ?_ (by first | exact Nat.le_refl _ | omega | (simp [go_sem]; done) | (simp [go_sem]; omega)))))⟩
theorem fnExactStepDay_own : ownKnob Try.prog.godebug = none := by kernel_rfl
theorem fnExactStepDay_laidOut : laidOutB Try.prog = true := by kernel_rfl
set_option maxRecDepth 100000 in
theorem fnExactStepDay_lifted (os : Os) (started : os.Started) (H : Type) (enc : TypeId × Value → H) :
    ReturnsInHanded {} Try.checked os 8 .any (Rows.fnExactStepDaySpec.pre6 enc Try.prog Try.f8 Rows.fnExactStepDayRow.domain false) (Rows.fnExactStepDaySpec.post enc Try.prog Try.f8 false true false false) := by
  refine returnsInHanded_of_change (C := Try.checked) fnExactStepDay_own started (by kernel_rfl) Try.func8
    (ChangeSpec.witness6 (enc := enc) (C := Try.checked) false ⟨#[], #[.agg #[.int .i64 0, .int .i64 0, .slice none 0 0, .int .i64 0, .int .i64 0, .int .i64 0, .int .i64 0], .agg #[.int .i64 0, .int .i64 0]], []⟩ 8 (by kernel_rfl) (by kernel_rfl) (by kernel_rfl) (by kernel_rfl)) ?_
  intro W base args ds gs before hval0 hW hcnd _
  have hval : ∀ (j : Nat) t v, Try.f8.params[j]? = some t → args[j]? = some v → Value.okWide Try.prog W .any base t v := hval0
  have hW' := hW
  obtain ⟨p, q, hA0, hV, rfl, hfz, hnd⟩ := hW
  have hA : DataW.TrodAll enc Try.prog W 0 (fun _ => true) true Try.f8.params.toList args.toList ds p := hA0
  rw [Try.params8] at hA hval
  obtain ⟨v0, vs0, d0, ds0, p0, q0, hargs, rfl, rfl, h0, r0⟩ := trodAll_cons hA
  obtain ⟨v1, vs1, d1, ds1, p1, q1, rfl, rfl, rfl, h1, r1⟩ := trodAll_cons r0
  obtain ⟨rfl, rfl, rfl⟩ := trodAll_nil r1
  obtain rfl : args = #[v0, v1] := by cases args; simp_all
  obtain ⟨rfl, rfl⟩ := trodVars_none hV
  have k0 := h0
  have lt0 : ∀ x ∈ p0, x.block < W.heap.size := by obtain ⟨m, hm⟩ := k0; exact DataW.trod_lt m _ _ _ hm
  have k1 := h1
  have lt1 : ∀ x ∈ p1, x.block < W.heap.size := by obtain ⟨m, hm⟩ := k1; exact DataW.trod_lt m _ _ _ hm
  obtain ⟨u, rfl, hu⟩ := open_day (hval 0 24 v0 rfl rfl) h0
  obtain ⟨k, x, rfl⟩ := open_step (hval 1 48 v1 rfl rfl) h1
  clear hA0 hval0
  refine (l_FnExactStepDay u k x W hu).mono fun e W' ⟨he, hg⟩ => ?_
  have bel := below_of_grew hg
  subst he
  exact ⟨_, rfl, _, _, _, [], _, [], hW', trodAll_mk1 (shut_bool Try.underlying4 _), (trodAll_cons_mk (Below.trod fnExactStepDay_laidOut (by kernel_rfl) (of_decide_eq_true (by kernel_rfl)) k0 bel lt0) (trodAll_cons_mk (Below.trod fnExactStepDay_laidOut (by kernel_rfl) (of_decide_eq_true (by kernel_rfl)) k1 bel lt1) trodAll_mk0)), rfl, bel.frame _, fun h => by cases h⟩
theorem fnExactStepDay_over : Rows.fnExactStepDayRow.holds Try.pinned (OpenSpec.ofChange Rows.fnExactStepDaySpec) :=
  OpenClaim.holds_of_wide 8 Try.f8 rfl rfl rfl rfl rfl rfl rfl ⟨rfl, rfl, rfl, rfl, rfl⟩ rfl rfl rfl rfl rfl (by kernel_rfl) Try.func8 (by kernel_rfl)
    (of_decide_eq_true (by kernel_rfl)) (by unfold Func.isWrapper; first | (rw [if_pos (by decide +kernel)]; kernel_rfl) | (rw [if_neg (by decide +kernel)]; exact ⟨rfl, rfl⟩))
    (fun os started H enc _ => fnExactStepDay_lifted os started H enc)
theorem fnExactStepDay_holds : Rows.FnExactStepDaySaid := fnExactStepDay_over
end Go.Proofs.Ytcmeiojfmpkkeaa
