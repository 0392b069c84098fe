/- The law FnExactAppendRecord: the function returns what the reference returns. No condition beyond the row's own: the tables that strconv reads hold what they hold at the start. -/
import Derived.Test.YtpeicjlmkjbaeaaDoorLogOpen
import Derived.Test.YtpeicjlmkjbaeaaDoorH2
namespace Go.Proofs.YtpeicjlmkjbaeaaDoor
open Go.ChangeShapes Go.WideShapes Go.ChangeAt Go.RowKit Go.Deep Go.Joins
open Go.ChangeMaps (open_string shut_string)

attribute [local go_sem ↓] Go.wp_at_zero Go.wp_at_succ
theorem grew_two {a b c : World} (h1 : ∃ g, b = plus a g) (h2 : ∃ g, c = plus b g) : ∃ g, c = plus a g := by
  obtain ⟨_, rfl⟩ := h1; obtain ⟨_, rfl⟩ := h2; exact ⟨_, plus_plus _ _ _⟩
theorem grew_all {a b c d : World} (h1 : ∃ g, b = plus a g) (h2 : ∃ g, c = plus b g) (h3 : ∃ g, d = plus c g) : ∃ g, d = plus a g := grew_two (grew_two h1 h2) h3
theorem cut2 {G F : Nat → World → Prop} {T : Prop} (main : (∀ b W, F b W → G b W) → T) (cut : ∀ b W, F b W → G b W) : T := main cut
set_option maxHeartbeats 4000000 in
theorem l_FnExactAppendRecord (l : LogR) (c r : ByteArray) (w : World) (h1 : l.d.size ≤ maxLen) (h2 : l.p.size ≤ maxLen) (h3 : c.size ≤ maxLen) (h4 : r.size ≤ maxLen) (hE : Env w) :
    Calls Tryd.prog 8 #[l.val, recVal c r] w fun e' w' => e' = .returned (.bool true) ∧ ∃ g, w' = plus w g := by
  have HE := hid hE
  clear hE
  obtain ⟨p, hp⟩ : ∃ p, appF l ⟨c, r⟩ = p := ⟨_, rfl⟩
  have HP := hid hp
  clear hp
  go_enter Tryd.func8, Tryd.ntmps8
  go_wp2_with fail
  (refine (l_szLog l _ _ h1 h2 (by omega) (by omega)).mono ?_; rintro e w' ⟨⟨kz, rfl, k1, k2, k3⟩, gx, rfl⟩)
  by_cases hneg : kz < 0
  · go_wp2_with fail
    go_ret
    exact ⟨rfl, by (repeat (first | with_reducible exact grew_refl _ | with_reducible assumption | with_reducible refine grew_split ?_ | with_reducible refine grew_mk ?_ | with_reducible refine grew_plus ?_ | with_reducible refine grew_alloc ?_ | with_reducible refine grew_drew ?_ | (with_reducible refine grew_set ?_ (by first | exact Nat.le_refl _ | omega | (simp [go_sem]; done) | (simp [go_sem]; omega)))))⟩
  obtain ⟨k4, k5⟩ := k3 (by omega)
  clear k3
  go_wp2_with fail
  refine (l_szLogRecord c r _ _ h3 h4 (by omega) (by omega)).mono ?_
  rintro e w' ⟨⟨kz2, rfl⟩, gx2, rfl⟩
  by_cases hneg2 : kz2 < 0
  · go_wp2_with fail
    go_ret
    exact ⟨rfl, by (repeat (first | with_reducible exact grew_refl _ | with_reducible assumption | with_reducible refine grew_split ?_ | with_reducible refine grew_mk ?_ | with_reducible refine grew_plus ?_ | with_reducible refine grew_alloc ?_ | with_reducible refine grew_drew ?_ | (with_reducible refine grew_set ?_ (by first | exact Nat.le_refl _ | omega | (simp [go_sem]; done) | (simp [go_sem]; omega)))))⟩
  go_wp2_with fail
  refine wp_opaq7 (fun wr => Blk wr w.heap.size 36 #[.string l.d, .string l.p, .int .i64 l.n] ∧ Blk wr (w.heap.size + 1) 23 #[.string c, .string r] ∧ ∃ g, wr = plus w g) ⟨blk_grew (blk_new (w := w) rfl) (by (repeat (first | with_reducible exact grew_refl _ | with_reducible assumption | with_reducible refine grew_split ?_ | with_reducible refine grew_mk ?_ | with_reducible refine grew_plus ?_ | with_reducible refine grew_alloc ?_ | with_reducible refine grew_drew ?_ | (with_reducible refine grew_set ?_ (by first | exact Nat.le_refl _ | omega | (simp [go_sem]; done) | (simp [go_sem]; omega)))))), blk_grew (blk_new (w := w.alloc _) (by simp)) (by (repeat (first | with_reducible exact grew_refl _ | with_reducible assumption | with_reducible refine grew_split ?_ | with_reducible refine grew_mk ?_ | with_reducible refine grew_plus ?_ | with_reducible refine grew_alloc ?_ | with_reducible refine grew_drew ?_ | (with_reducible refine grew_set ?_ (by first | exact Nat.le_refl _ | omega | (simp [go_sem]; done) | (simp [go_sem]; omega)))))), by (repeat (first | with_reducible exact grew_refl _ | with_reducible assumption | with_reducible refine grew_split ?_ | with_reducible refine grew_mk ?_ | with_reducible refine grew_plus ?_ | with_reducible refine grew_alloc ?_ | with_reducible refine grew_drew ?_ | (with_reducible refine grew_set ?_ (by first | exact Nat.le_refl _ | omega | (simp [go_sem]; done) | (simp [go_sem]; omega)))))⟩ ?_
  rintro wr ⟨hBL, hBR, hg⟩
  have KEEP : Hid (∀ W : World, (∃ g, W = plus wr g) → ((fun w' => w'.cell? ⟨w.heap.size, 0, none⟩ = some (.string l.d) ∧ w'.cell? ⟨w.heap.size, 1, none⟩ = some (.string l.p) ∧ w'.cell? ⟨w.heap.size, 2, none⟩ = some (.int .i64 l.n) ∧ w'.cell? ⟨w.heap.size + 1, 0, none⟩ = some (.string c) ∧ w'.cell? ⟨w.heap.size + 1, 1, none⟩ = some (.string r))) W) := hid (fun W hW => by
    have a := blk_grew hBL hW
    have b := blk_grew hBR hW
    have a0 := a.cell 0
    have a1 := a.cell 1
    have a2 := a.cell 2
    have b0 := b.cell 0
    have b1 := b.cell 1
    simp at a0 a1 a2 b0 b1
    exact ⟨a0, a1, a2, b0, b1⟩)
  have HG := hid hg
  clear hBL hBR hg
  refine' cut2 (F := fun b W => Blk W b 31 #[.string p.1.d, .string p.1.p, .int .i64 p.1.n] ∧ ∃ g, W = plus wr g) (fun CUT => ?_) ?_
  rotate_left 1
  · go_region_held3 (fun w' => w'.cell? ⟨w.heap.size, 0, none⟩ = some (.string l.d) ∧ w'.cell? ⟨w.heap.size, 1, none⟩ = some (.string l.p) ∧ w'.cell? ⟨w.heap.size, 2, none⟩ = some (.int .i64 l.n) ∧ w'.cell? ⟨w.heap.size + 1, 0, none⟩ = some (.string c) ∧ w'.cell? ⟨w.heap.size + 1, 1, none⟩ = some (.string r)) (exact KEEP.out _ (by (repeat (first | with_reducible exact grew_refl _ | with_reducible assumption | with_reducible refine grew_split ?_ | with_reducible refine grew_mk ?_ | with_reducible refine grew_plus ?_ | with_reducible refine grew_alloc ?_ | with_reducible refine grew_drew ?_ | (with_reducible refine grew_set ?_ (by first | exact Nat.le_refl _ | omega | (simp [go_sem]; done) | (simp [go_sem]; omega))))))) (first | (go_at_call 22; refine (l_toLog l _).mono ?_; rintro e w' ⟨rfl, ga, rfl⟩) | (go_at_call 15; refine (l_toLogRecord c r _).mono ?_; rintro e w' ⟨rfl, gb, rfl⟩) | (go_at_call 28; refine (s_AppendRecord l ⟨c, r⟩ _ (by omega) (by omega) h3 h4 (HE.out.grew (grew_two HG.out (by (repeat (first | with_reducible exact grew_refl _ | with_reducible assumption | with_reducible refine grew_split ?_ | with_reducible refine grew_mk ?_ | with_reducible refine grew_plus ?_ | with_reducible refine grew_alloc ?_ | with_reducible refine grew_drew ?_ | (with_reducible refine grew_set ?_ (by first | exact Nat.le_refl _ | omega | (simp [go_sem]; done) | (simp [go_sem]; omega))))))))).mono ?_; rw [HP.out]; rintro e w' ⟨rfl, gc, rfl⟩))
    · (generalize hb : wr.heap.size + ((ga.add gb).add gc).objs.size = b; generalize hW : (plus wr.drew ((ga.add gb).add gc)).alloc (.cells #[.string p.1.d, .string p.1.p, .int .i64 p.1.n] 31) = W; refine CUT b W ?_; subst hb hW; exact ⟨blk_new (by first | (simp [go_sem]; done) | (simp [go_sem]; omega) | (simp [go_sem, Ext.add]; done) | (simp [go_sem, Ext.add]; omega) | omega), by (repeat (first | with_reducible exact grew_refl _ | with_reducible assumption | with_reducible refine grew_split ?_ | with_reducible refine grew_mk ?_ | with_reducible refine grew_plus ?_ | with_reducible refine grew_alloc ?_ | with_reducible refine grew_drew ?_ | (with_reducible refine grew_set ?_ (by first | exact Nat.le_refl _ | omega | (simp [go_sem]; done) | (simp [go_sem]; omega)))))⟩)
    all_goals (refine CUT _ _ ?_; exact ⟨(by first | exact blk_new (by first | (simp [go_sem]; done) | (simp [go_sem]; omega) | (simp [go_sem, Ext.add]; done) | (simp [go_sem, Ext.add]; omega) | omega) | exact blk_grew (blk_new (by first | (simp [go_sem]; done) | (simp [go_sem]; omega) | (simp [go_sem, Ext.add]; done) | (simp [go_sem, Ext.add]; omega) | omega)) (grew_plus (grew_refl _)) | exact blk_grew (blk_new (by first | (simp [go_sem]; done) | (simp [go_sem]; omega) | (simp [go_sem, Ext.add]; done) | (simp [go_sem, Ext.add]; omega) | omega)) (grew_plus (grew_drew (grew_refl _)))), by (repeat (first | with_reducible exact grew_refl _ | with_reducible assumption | with_reducible refine grew_split ?_ | with_reducible refine grew_mk ?_ | with_reducible refine grew_plus ?_ | with_reducible refine grew_alloc ?_ | with_reducible refine grew_drew ?_ | (with_reducible refine grew_set ?_ (by first | exact Nat.le_refl _ | omega | (simp [go_sem]; done) | (simp [go_sem]; omega)))))⟩)
  rintro b1 W1 ⟨hB1, hg1⟩
  have HB1 := hid hB1
  have HG1 := hid hg1
  have KEEP1 : Hid (∀ W : World, (∃ g, W = plus W1 g) → ((fun w' => w'.cell? ⟨w.heap.size, 0, none⟩ = some (.string l.d) ∧ w'.cell? ⟨w.heap.size, 1, none⟩ = some (.string l.p) ∧ w'.cell? ⟨w.heap.size, 2, none⟩ = some (.int .i64 l.n) ∧ w'.cell? ⟨w.heap.size + 1, 0, none⟩ = some (.string c) ∧ w'.cell? ⟨w.heap.size + 1, 1, none⟩ = some (.string r))) W) := hid (fun W hW => KEEP.out W (by obtain ⟨g, rfl⟩ := hW; have h := HG1.out; (repeat (first | with_reducible exact grew_refl _ | with_reducible assumption | with_reducible refine grew_split ?_ | with_reducible refine grew_mk ?_ | with_reducible refine grew_plus ?_ | with_reducible refine grew_alloc ?_ | with_reducible refine grew_drew ?_ | (with_reducible refine grew_set ?_ (by first | exact Nat.le_refl _ | omega | (simp [go_sem]; done) | (simp [go_sem]; omega)))))))
  clear hB1 hg1
  go_wp2_with fail
  refine' cut2 (F := fun b W => Blk W b 31 #[.string p.1.d, .string p.1.p, .int .i64 p.1.n] ∧ ∃ g, W = plus W1 g) (fun CUT => ?_) ?_
  rotate_left 1
  · go_region_held3 (fun w' => w'.cell? ⟨w.heap.size, 0, none⟩ = some (.string l.d) ∧ w'.cell? ⟨w.heap.size, 1, none⟩ = some (.string l.p) ∧ w'.cell? ⟨w.heap.size, 2, none⟩ = some (.int .i64 l.n) ∧ w'.cell? ⟨w.heap.size + 1, 0, none⟩ = some (.string c) ∧ w'.cell? ⟨w.heap.size + 1, 1, none⟩ = some (.string r)) (exact KEEP1.out _ (by (repeat (first | with_reducible exact grew_refl _ | with_reducible assumption | with_reducible refine grew_split ?_ | with_reducible refine grew_mk ?_ | with_reducible refine grew_plus ?_ | with_reducible refine grew_alloc ?_ | with_reducible refine grew_drew ?_ | (with_reducible refine grew_set ?_ (by first | exact Nat.le_refl _ | omega | (simp [go_sem]; done) | (simp [go_sem]; omega))))))) (first | (go_at_call 22; refine (l_toLog l _).mono ?_; rintro e w' ⟨rfl, ga, rfl⟩) | (go_at_call 15; refine (l_toLogRecord c r _).mono ?_; rintro e w' ⟨rfl, gb, rfl⟩) | (go_at_call 29; refine (i_AppendRecord l ⟨c, r⟩ _ (by omega) (by omega) h3 h4 (HE.out.grew (grew_all HG.out HG1.out (by (repeat (first | with_reducible exact grew_refl _ | with_reducible assumption | with_reducible refine grew_split ?_ | with_reducible refine grew_mk ?_ | with_reducible refine grew_plus ?_ | with_reducible refine grew_alloc ?_ | with_reducible refine grew_drew ?_ | (with_reducible refine grew_set ?_ (by first | exact Nat.le_refl _ | omega | (simp [go_sem]; done) | (simp [go_sem]; omega))))))))).mono ?_; rw [HP.out]; rintro e w' ⟨rfl, gc, rfl⟩))
    · (generalize hb : W1.heap.size + ((ga.add gb).add gc).objs.size = b; generalize hW : (plus W1.drew ((ga.add gb).add gc)).alloc (.cells #[.string p.1.d, .string p.1.p, .int .i64 p.1.n] 31) = W; refine CUT b W ?_; subst hb hW; exact ⟨blk_new (by first | (simp [go_sem]; done) | (simp [go_sem]; omega) | (simp [go_sem, Ext.add]; done) | (simp [go_sem, Ext.add]; omega) | omega), by (repeat (first | with_reducible exact grew_refl _ | with_reducible assumption | with_reducible refine grew_split ?_ | with_reducible refine grew_mk ?_ | with_reducible refine grew_plus ?_ | with_reducible refine grew_alloc ?_ | with_reducible refine grew_drew ?_ | (with_reducible refine grew_set ?_ (by first | exact Nat.le_refl _ | omega | (simp [go_sem]; done) | (simp [go_sem]; omega)))))⟩)
    all_goals (refine CUT _ _ ?_; exact ⟨(by first | exact blk_new (by first | (simp [go_sem]; done) | (simp [go_sem]; omega) | (simp [go_sem, Ext.add]; done) | (simp [go_sem, Ext.add]; omega) | omega) | exact blk_grew (blk_new (by first | (simp [go_sem]; done) | (simp [go_sem]; omega) | (simp [go_sem, Ext.add]; done) | (simp [go_sem, Ext.add]; omega) | omega)) (grew_plus (grew_refl _)) | exact blk_grew (blk_new (by first | (simp [go_sem]; done) | (simp [go_sem]; omega) | (simp [go_sem, Ext.add]; done) | (simp [go_sem, Ext.add]; omega) | omega)) (grew_plus (grew_drew (grew_refl _)))), by (repeat (first | with_reducible exact grew_refl _ | with_reducible assumption | with_reducible refine grew_split ?_ | with_reducible refine grew_mk ?_ | with_reducible refine grew_plus ?_ | with_reducible refine grew_alloc ?_ | with_reducible refine grew_drew ?_ | (with_reducible refine grew_set ?_ (by first | exact Nat.le_refl _ | omega | (simp [go_sem]; done) | (simp [go_sem]; omega)))))⟩)
  rintro b2 W2 ⟨hB2, hg2⟩
  have hg1 := HG1.out
  have hg := HG.out
  have hB3 := blk_grew HB1.out hg2
  have x0 := hB3.cell 0
  have x1 := hB3.cell 1
  have x2 := hB3.cell 2
  have y0 := hB2.cell 0
  have y1 := hB2.cell 1
  have y2 := hB2.cell 2
  simp at x0 x1 x2 y0 y1 y2
  have hgw : ∃ g, W2 = plus w g := by
    obtain ⟨_, rfl⟩ := hg2
    obtain ⟨_, rfl⟩ := hg1
    (repeat (first | with_reducible exact grew_refl _ | with_reducible assumption | with_reducible refine grew_split ?_ | with_reducible refine grew_mk ?_ | with_reducible refine grew_plus ?_ | with_reducible refine grew_alloc ?_ | with_reducible refine grew_drew ?_ | (with_reducible refine grew_set ?_ (by first | exact Nat.le_refl _ | omega | (simp [go_sem]; done) | (simp [go_sem]; omega)))))
  have HW := hid hgw
  clear hB2 hB3 hg1 hg hg2 hgw
  go_wp2_with fail
  refine (l_eqLog p.1 _).mono ?_
  (rintro e w' ⟨rfl, gx, rfl⟩)
  go_wp2_with fail
  go_ret
  have hgw := HW.out
  exact ⟨rfl, by (repeat (first | with_reducible exact grew_refl _ | with_reducible assumption | with_reducible refine grew_split ?_ | with_reducible refine grew_mk ?_ | with_reducible refine grew_plus ?_ | with_reducible refine grew_alloc ?_ | with_reducible refine grew_drew ?_ | (with_reducible refine grew_set ?_ (by first | exact Nat.le_refl _ | omega | (simp [go_sem]; done) | (simp [go_sem]; omega)))))⟩
theorem fnExactAppendRecord_met (os : Os) : laidMet Tryd.prog Rows.fnExactAppendRecordRow.laid ((laidWorld os).forCall (fun _ _ => 0) ⟨#[], #[.agg #[.string ByteArray.empty, .string ByteArray.empty, .int .i64 0], .agg #[.string ByteArray.empty, .string ByteArray.empty]], []⟩).memory :=
  laidMet_of_run' 8 (by kernel_rfl) (by kernel_rfl)
theorem fnExactAppendRecord_reads (os : Os) {H : Type} (enc : TypeId × Value → H) : ∃ places, DataW.whole enc Tryd.prog ((laidWorld os).forCall (fun _ _ => 0) ⟨#[], #[.agg #[.string ByteArray.empty, .string ByteArray.empty, .int .i64 0], .agg #[.string ByteArray.empty, .string ByteArray.empty]], []⟩).memory Tryd.f8.params.toList Rows.fnExactAppendRecordSpec.vars false (#[.agg #[.string ByteArray.empty, .string ByteArray.empty, .int .i64 0], .agg #[.string ByteArray.empty, .string ByteArray.empty]] : Array Value).toList 8 = some ([.agg [.lit (.string []), .lit (.string []), .lit (.int .i64 0)], .agg [.lit (.string []), .lit (.string [])]], [], places) :=
  ⟨[], by kernel_rfl⟩
set_option maxRecDepth 100000 in
theorem fnExactAppendRecord_contract (H : Type) (enc : TypeId × Value → H) (W : World) (base : Nat) (args : Array Value) (ds gs : List (DataW H)) (before : List MemPlace)
    (hval0 : ∀ (j : Nat) t v, Tryd.f8.params[j]? = some t → args[j]? = some v → Value.okWide Tryd.prog W .any base t v)
    (hW : DataW.Whole enc Tryd.prog Tryd.f8.params.toList Rows.fnExactAppendRecordSpec.vars false W args.toList ds gs before) (hL : laidMetH Tryd.prog Rows.fnExactAppendRecordRow.laid W) (_hsh : W.ShapedOpen Tryd.prog) :
    Calls Tryd.prog 8 args W fun e W' => ∃ v, e = .returned v ∧ Rows.fnExactAppendRecordSpec.post enc Tryd.prog Tryd.f8 false true false false W args v W' := by
  have hT : Tab W := tab_of hL
  have hval := hval0
  have hW' := hW
  obtain ⟨p, q, hA0, hV, rfl, hfz, hnd⟩ := hW
  have hA : DataW.TrodAll enc Tryd.prog W 0 (fun _ => true) true Tryd.f8.params.toList args.toList ds p := hA0
  rw [Tryd.params8] at hA hval
  obtain ⟨v0, vs0, d0, ds0, p0, q0, hargs, rfl, rfl, h0, r0⟩ := trodAll_cons hA
  obtain ⟨v1, vs1, d1, ds1, p1, q1, rfl, rfl, rfl, h1, r1⟩ := trodAll_cons r0
  obtain ⟨rfl, rfl, rfl⟩ := trodAll_nil r1
  obtain rfl : args = #[v0, v1] := by cases args; simp_all
  obtain ⟨rfl, rfl⟩ := trodVars_none hV
  have k0 := h0
  have lt0 : ∀ x ∈ p0, x.block < W.heap.size := by obtain ⟨m, hm⟩ := k0; exact DataW.trod_lt m _ _ _ hm
  have k1 := h1
  have lt1 : ∀ x ∈ p1, x.block < W.heap.size := by obtain ⟨m, hm⟩ := k1; exact DataW.trod_lt m _ _ _ hm
  obtain ⟨u, rfl, hu1, hu2⟩ := open_log (hval 0 36 v0 rfl rfl) h0
  obtain ⟨c, r, rfl, hc, hr⟩ := open_record (hval 1 23 v1 rfl rfl) h1
  clear hA0 hval0
  refine (l_FnExactAppendRecord u c r W hu1 hu2 hc hr (env_of hT _hsh)).mono fun e W' ⟨he, hg⟩ => ?_
  have bel := below_of_grew hg
  subst he
  exact ⟨_, rfl, _, _, _, [], _, [], hW', trodAll_mk1 (shut_bool Tryd.underlying4 _), (trodAll_cons_mk (Below.trod laid_out (by kernel_rfl) (of_decide_eq_true (by kernel_rfl)) k0 bel lt0) (trodAll_cons_mk (Below.trod laid_out (by kernel_rfl) (of_decide_eq_true (by kernel_rfl)) k1 bel lt1) trodAll_mk0)), rfl, bel.frame _, fun h => by cases h⟩
set_option maxRecDepth 100000 in
theorem fnExactAppendRecord_lifted (os : Os) (started : os.Started) (H : Type) (enc : TypeId × Value → H) (F : Stop.Interp) :
    ReturnsInHanded {} Tryd.checked os 8 .any ((OpenSpec.ofChange Rows.fnExactAppendRecordSpec).preRow enc Tryd.prog Tryd.f8 Rows.fnExactAppendRecordRow.domain false Rows.fnExactAppendRecordRow.laid) (((OpenSpec.ofChange Rows.fnExactAppendRecordSpec).at F).post enc Tryd.prog Tryd.f8 false true false false) := by
  obtain ⟨places, hx⟩ := fnExactAppendRecord_reads os enc
  refine returnsInHanded_of_row (C := Tryd.checked) (s := OpenSpec.ofChange Rows.fnExactAppendRecordSpec) own_knob started (by kernel_rfl) Tryd.func8
    (witness_row_at (enc := enc) (C := Tryd.checked) false (laidWorld os) #[.agg #[.string ByteArray.empty, .string ByteArray.empty, .int .i64 0], .agg #[.string ByteArray.empty, .string ByteArray.empty]] rfl (by kernel_rfl) (by kernel_rfl) (by kernel_rfl)
      (OpenSpec.preRow_of_cond 8 hx (by kernel_rfl) (fun k hk => by cases hk) (by kernel_rfl) (fnExactAppendRecord_met os))) ?_
  intro W base args ds gs before hval hW _ _ _ hL hsh _
  exact fnExactAppendRecord_contract H enc W base args ds gs before hval hW hL hsh
theorem fnExactAppendRecord_said : Rows.FnExactAppendRecordSaid :=
  OpenClaim.holds_of_cond 8 Tryd.f8 rfl rfl rfl rfl rfl rfl rfl ⟨rfl, rfl, rfl, rfl, rfl⟩ rfl rfl rfl rfl rfl (by kernel_rfl) Tryd.func8 (by kernel_rfl)
    (of_decide_eq_true (by kernel_rfl)) (by unfold Func.isWrapper; first | (rw [if_pos (by decide +kernel)]; kernel_rfl) | (rw [if_neg (by decide +kernel)]; exact ⟨rfl, rfl⟩))
    (fun os started H enc _ F => by rw [OpenClaim.pre_eq_preRow]; exact fnExactAppendRecord_lifted os started H enc F)
theorem fnExactAppendRecord_plain (f : FuncId) (fn : Func) (hf : Tryd.pinned.checked.prog.funcNamed Rows.fnExactAppendRecordRow.func = some f) (hfn : Tryd.pinned.checked.prog.funcs[f]? = some fn) :
    false = Tryd.pinned.checked.prog.looks [] ∧ ∀ (j : Nat) t, fn.params[j]? = some t → Tryd.pinned.checked.prog.wantsStandIn t = false := by
  obtain rfl : f = 8 := Option.some.inj ((show Tryd.prog.funcNamed Rows.fnExactAppendRecordRow.func = some 8 by kernel_rfl).symm.trans hf) |>.symm
  obtain rfl : fn = Tryd.f8 := (Option.some.inj (Tryd.func8.symm.trans hfn)).symm
  refine ⟨by kernel_rfl, fun j t ht => ?_⟩
  have h : ∀ t ∈ Tryd.f8.params.toList, Tryd.prog.wantsStandIn t = false := by rw [Tryd.params8]; intro t ht; simp at ht; rcases ht with rfl | rfl <;> kernel_rfl
  exact h t (by simpa using Array.mem_of_getElem? ht)
theorem fnExactAppendRecord_holds : Rows.FnExactAppendRecordCardSaid :=
  Claim7.holds_tied_plain_at .later [] _ _ _ _ fnExactAppendRecord_said (fun _ h => by cases h) (by kernel_rfl) (fun _ h => by cases h) fnExactAppendRecord_row_tie rfl ⟨rfl, rfl⟩ (by kernel_rfl) rfl fnExactAppendRecord_plain (by kernel_rfl)
end Go.Proofs.YtpeicjlmkjbaeaaDoor
