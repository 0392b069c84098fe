/- The law FnExactNewConsole. No condition. -/
import Derived.Test.YtjigkadgcddhgaaRows
import Derived.Test.YtjigkadgcddhgaaD5
import Derived.Test.YtjigkadgcddhgaaC1
import Derived.Test.YtjigkadgcddhgaaOpen
import Derived.Deep.RegionWith
namespace Go.Proofs.Ytjigkadgcddhgaa
open Go.ChangeShapes Go.WideShapes Go.ChangeAt Go.RowKit Go.Deep Go.Joins
open Go.ChangeMaps (open_string shut_string)

theorem newF_len (ms : List Int) (fuel : Int) : (newF ms fuel).lines.length ≤ 8 := by
  unfold newF
  split
  · rename_i h
    simp only [DayC.ok, DayC.pre, inB, Bool.and_eq_true, decide_eq_true_eq] at h
    omega
  · simp [noDay]
set_option maxHeartbeats 4000000 in
theorem l_FnExactNewConsole (l : List Int) (A : Option Addr) (c : Nat) (fuel : Int) (w : World) (hA : Sl w 1 intRow A l) (hl : l.length ≤ maxLen) :
    Calls Try.prog 3 #[.slice A l.length c, .int .i64 fuel] w fun e' w' => e' = .returned (.bool true) ∧ ∃ g, w' = plus w g := by
  have HV := hid hA
  clear hA
  unfold maxLen at hl
  by_cases hbig : 1048576 < l.length
  · go_enter Try.func3, Try.ntmps3
    go_wp2_with fail
    go_ret
    exact ⟨rfl, by (repeat (first | with_reducible exact grew_refl _ | with_reducible assumption | with_reducible refine grew_split ?_ | with_reducible refine grew_mk ?_ | with_reducible refine grew_plus ?_ | with_reducible refine grew_alloc ?_ | with_reducible refine grew_drew ?_ | (with_reducible refine grew_set ?_ (by first | exact Nat.le_refl _ | omega | (simp [go_sem]; done) | (simp [go_sem]; omega)))))⟩
  have hl' : l.length ≤ 1048576 := by omega
  have hn8 := newF_len l fuel
  have hdl : (newF l fuel).lines.length ≤ maxLen := by unfold maxLen; omega
  have HDL := hid hdl
  clear hdl
  go_enter Try.func3, Try.ntmps3
  go_wp2_with fail
  (refine (l_toIntS l A c _ (HV.out.grew (by (repeat (first | with_reducible exact grew_refl _ | with_reducible assumption | with_reducible refine grew_split ?_ | with_reducible refine grew_mk ?_ | with_reducible refine grew_plus ?_ | with_reducible refine grew_alloc ?_ | with_reducible refine grew_drew ?_ | (with_reducible refine grew_set ?_ (by first | exact Nat.le_refl _ | omega | (simp [go_sem]; done) | (simp [go_sem]; omega))))))) (by omega)).mono ?_; rintro e w' ⟨⟨AU1, rfl, hoU1⟩, gxU1, rfl⟩; (try rw [plus_plus] at hoU1); have U1 := hid hoU1; clear hoU1; go_wp2_with fail)
  refine (s_NewConsole l _ _ fuel _ U1.out.sl hl').mono ?_
  rintro e w' ⟨⟨A1', d1, rfl, hO1⟩, gs1, rfl⟩
  (try rw [plus_plus] at hO1)
  have O1 := hid (DayV.At.mk (v := ⟨newF l fuel, A1', d1⟩) hO1.sl HDL.out)
  clear hO1
  go_wp2_with fail
  (refine (l_toIntS l A c _ (HV.out.grew (by (repeat (first | with_reducible exact grew_refl _ | with_reducible assumption | with_reducible refine grew_split ?_ | with_reducible refine grew_mk ?_ | with_reducible refine grew_plus ?_ | with_reducible refine grew_alloc ?_ | with_reducible refine grew_drew ?_ | (with_reducible refine grew_set ?_ (by first | exact Nat.le_refl _ | omega | (simp [go_sem]; done) | (simp [go_sem]; omega))))))) (by omega)).mono ?_; rintro e w' ⟨⟨AU2, rfl, hoU2⟩, gxU2, rfl⟩; (try rw [plus_plus] at hoU2); have U2 := hid hoU2; clear hoU2; go_wp2_with fail)
  refine (i_NewConsole l _ _ fuel _ U2.out.sl hl').mono ?_
  rintro e w' ⟨⟨A2', d2, rfl, hO2⟩, gs2, rfl⟩
  (try rw [plus_plus] at hO2)
  have O2 := hid hO2
  clear hO2
  go_wp2_with fail
  have HBG := hid (Blk.new ((plus (((plus w (gxU1.add gs1)).alloc (.cells (#[.int .i64 (newF l fuel).minute, .int .i64 (newF l fuel).state, .slice A1' (newF l fuel).lines.length d1, .int .i64 (newF l fuel).line, .int .i64 (newF l fuel).since, .int .i64 (newF l fuel).cast, .int .i64 (newF l fuel).fuel, .string ByteArray.empty, .string ByteArray.empty, .int .i64 0]) 29))) (gxU2.add gs2))) 29 (#[.int .i64 (newF l fuel).minute, .int .i64 (newF l fuel).state, .slice A2' (newF l fuel).lines.length d2, .int .i64 (newF l fuel).line, .int .i64 (newF l fuel).since, .int .i64 (newF l fuel).cast, .int .i64 (newF l fuel).fuel, .string ByteArray.empty, .string ByteArray.empty, .int .i64 0]))
  have O2a := hid (DayV.At.mk (v := ⟨newF l fuel, A2', d2⟩) O2.out.sl HDL.out)
  (refine (l_eqConsole (newF l fuel) ByteArray.empty ByteArray.empty 0 A2' A1' d2 d1 _ (O2a.out.grew (by (repeat (first | with_reducible exact grew_refl _ | with_reducible assumption | with_reducible refine grew_split ?_ | with_reducible refine grew_mk ?_ | with_reducible refine grew_plus ?_ | with_reducible refine grew_alloc ?_ | with_reducible refine grew_drew ?_ | (with_reducible refine grew_set ?_ (by first | exact Nat.le_refl _ | omega | (simp [go_sem]; done) | (simp [go_sem]; omega))))))) (O1.out.grew (by (repeat (first | with_reducible exact grew_refl _ | with_reducible assumption | with_reducible refine grew_split ?_ | with_reducible refine grew_mk ?_ | with_reducible refine grew_plus ?_ | with_reducible refine grew_alloc ?_ | with_reducible refine grew_drew ?_ | (with_reducible refine grew_set ?_ (by first | exact Nat.le_refl _ | omega | (simp [go_sem]; done) | (simp [go_sem]; omega)))))))).mono ?_; rintro e w' ⟨rfl, gxe, rfl⟩; go_wp2_with fail)
  (refine (l_toIntS l A c _ (HV.out.grew (by (repeat (first | with_reducible exact grew_refl _ | with_reducible assumption | with_reducible refine grew_split ?_ | with_reducible refine grew_mk ?_ | with_reducible refine grew_plus ?_ | with_reducible refine grew_alloc ?_ | with_reducible refine grew_drew ?_ | (with_reducible refine grew_set ?_ (by first | exact Nat.le_refl _ | omega | (simp [go_sem]; done) | (simp [go_sem]; omega))))))) (by omega)).mono ?_; rintro e w' ⟨⟨AU3, rfl, hoU3⟩, gxU3, rfl⟩; (try rw [plus_plus] at hoU3); have U3 := hid hoU3; clear hoU3; go_wp2_with fail)
  (refine (l_eqIntS l AU2 AU3 l.length l.length _ (U2.out.sl.grew (by (repeat (first | with_reducible exact grew_refl _ | with_reducible assumption | with_reducible refine grew_split ?_ | with_reducible refine grew_mk ?_ | with_reducible refine grew_plus ?_ | with_reducible refine grew_alloc ?_ | with_reducible refine grew_drew ?_ | (with_reducible refine grew_set ?_ (by first | exact Nat.le_refl _ | omega | (simp [go_sem]; done) | (simp [go_sem]; omega))))))) (U3.out.sl.grew (by (repeat (first | with_reducible exact grew_refl _ | with_reducible assumption | with_reducible refine grew_split ?_ | with_reducible refine grew_mk ?_ | with_reducible refine grew_plus ?_ | with_reducible refine grew_alloc ?_ | with_reducible refine grew_drew ?_ | (with_reducible refine grew_set ?_ (by first | exact Nat.le_refl _ | omega | (simp [go_sem]; done) | (simp [go_sem]; omega))))))) (by unfold maxLen; omega)).mono ?_; rintro e w' ⟨rfl, gxe, rfl⟩; go_wp2_with fail)
  have hR := U2.out.row
  refine (l_markIntS _ l AU2 l.length 1 _ (U2.out.grew (by (repeat (first | with_reducible exact grew_refl _ | with_reducible assumption | with_reducible refine grew_split ?_ | with_reducible refine grew_mk ?_ | with_reducible refine grew_plus ?_ | with_reducible refine grew_alloc ?_ | with_reducible refine grew_drew ?_ | (with_reducible refine grew_set ?_ (by first | exact Nat.le_refl _ | omega | (simp [go_sem]; done) | (simp [go_sem]; omega))))))) (by omega) (by omega) (by omega)).mono ?_
  rintro e w' ⟨rfl, -, hG⟩
  have hO3 := (O2.out.grew (by (repeat (first | with_reducible exact grew_refl _ | with_reducible assumption | with_reducible refine grew_split ?_ | with_reducible refine grew_mk ?_ | with_reducible refine grew_plus ?_ | with_reducible refine grew_alloc ?_ | with_reducible refine grew_drew ?_ | (with_reducible refine grew_set ?_ (by first | exact Nat.le_refl _ | omega | (simp [go_sem]; done) | (simp [go_sem]; omega))))))).kept hG (fun k hk => (hR k hk).2)
  have hB3 := (blk_grew HBG.out (by (repeat (first | with_reducible exact grew_refl _ | with_reducible assumption | with_reducible refine grew_split ?_ | with_reducible refine grew_mk ?_ | with_reducible refine grew_plus ?_ | with_reducible refine grew_alloc ?_ | with_reducible refine grew_drew ?_ | (with_reducible refine grew_set ?_ (by first | exact Nat.le_refl _ | omega | (simp [go_sem]; done) | (simp [go_sem]; omega))))))).grown hG (fun e => by have := (hR _ e.symm).2; simp [go_sem, Ext.add] at this; omega)
  obtain ⟨gm, rfl⟩ := grew_grown (by (repeat (first | with_reducible exact grew_refl _ | with_reducible assumption | with_reducible refine grew_split ?_ | with_reducible refine grew_mk ?_ | with_reducible refine grew_plus ?_ | with_reducible refine grew_alloc ?_ | with_reducible refine grew_drew ?_ | (with_reducible refine grew_set ?_ (by first | exact Nat.le_refl _ | omega | (simp [go_sem]; done) | (simp [go_sem]; omega)))))) hG (fun k hk => (hR k hk).1)
  have O3 := hid hO3
  have HB3 := hid hB3
  (have hq0 := hB3.cell 0; have hq1 := hB3.cell 1; have hq2 := hB3.cell 2; have hq3 := hB3.cell 3; have hq4 := hB3.cell 4; have hq5 := hB3.cell 5; have hq6 := hB3.cell 6; have hq7 := hB3.cell 7; have hq8 := hB3.cell 8; have hq9 := hB3.cell 9; simp [go_sem] at hq0 hq1 hq2 hq3 hq4 hq5 hq6 hq7 hq8 hq9)
  clear hG hR hO3 hB3
  go_wp2_with fail
  have O3a := hid (DayV.At.mk (v := ⟨newF l fuel, A2', d2⟩) O3.out.sl HDL.out)
  (refine (l_eqConsole (newF l fuel) ByteArray.empty ByteArray.empty 0 A2' A1' d2 d1 _ (O3a.out.grew (by (repeat (first | with_reducible exact grew_refl _ | with_reducible assumption | with_reducible refine grew_split ?_ | with_reducible refine grew_mk ?_ | with_reducible refine grew_plus ?_ | with_reducible refine grew_alloc ?_ | with_reducible refine grew_drew ?_ | (with_reducible refine grew_set ?_ (by first | exact Nat.le_refl _ | omega | (simp [go_sem]; done) | (simp [go_sem]; omega))))))) (O1.out.grew (by (repeat (first | with_reducible exact grew_refl _ | with_reducible assumption | with_reducible refine grew_split ?_ | with_reducible refine grew_mk ?_ | with_reducible refine grew_plus ?_ | with_reducible refine grew_alloc ?_ | with_reducible refine grew_drew ?_ | (with_reducible refine grew_set ?_ (by first | exact Nat.le_refl _ | omega | (simp [go_sem]; done) | (simp [go_sem]; omega)))))))).mono ?_; rintro e w' ⟨rfl, gxe, hw⟩; have hb := blk_grew HB3.out (w' := w') (by rw [hw]; (repeat (first | with_reducible exact grew_refl _ | with_reducible assumption | with_reducible refine grew_split ?_ | with_reducible refine grew_mk ?_ | with_reducible refine grew_plus ?_ | with_reducible refine grew_alloc ?_ | with_reducible refine grew_drew ?_ | (with_reducible refine grew_set ?_ (by first | exact Nat.le_refl _ | omega | (simp [go_sem]; done) | (simp [go_sem]; omega)))))); subst hw; (try rw [plus_plus] at hb); have HB4 := hid hb; clear hq0 hq1 hq2 hq3 hq4 hq5 hq6 hq7 hq8 hq9; (have hq0 := hb.cell 0; have hq1 := hb.cell 1; have hq2 := hb.cell 2; have hq3 := hb.cell 3; have hq4 := hb.cell 4; have hq5 := hb.cell 5; have hq6 := hb.cell 6; have hq7 := hb.cell 7; have hq8 := hb.cell 8; have hq9 := hb.cell 9; simp [go_sem] at hq0 hq1 hq2 hq3 hq4 hq5 hq6 hq7 hq8 hq9); clear hb; go_wp2_with fail)
  have hR := O3.out.row
  have hR2 := O2.out.row
  refine (l_markConsole _ ⟨newF l fuel, A2', d2⟩ ByteArray.empty ByteArray.empty 0 1 _ (O3.out.grew (by (repeat (first | with_reducible exact grew_refl _ | with_reducible assumption | with_reducible refine grew_split ?_ | with_reducible refine grew_mk ?_ | with_reducible refine grew_plus ?_ | with_reducible refine grew_alloc ?_ | with_reducible refine grew_drew ?_ | (with_reducible refine grew_set ?_ (by first | exact Nat.le_refl _ | omega | (simp [go_sem]; done) | (simp [go_sem]; omega))))))) (by simp only; omega) (by omega) (by omega)).mono ?_
  rintro e w' ⟨rfl, hM, hG⟩
  have hB5 := HB4.out.grown hG (fun e => by have := (hR2 _ e.symm).2; simp [go_sem, Ext.add] at this <;> omega)
  obtain ⟨gn, rfl⟩ := grew_grown (w0 := ((plus w (gxU1.add gs1)).alloc (.cells (#[.int .i64 (newF l fuel).minute, .int .i64 (newF l fuel).state, .slice A1' (newF l fuel).lines.length d1, .int .i64 (newF l fuel).line, .int .i64 (newF l fuel).since, .int .i64 (newF l fuel).cast, .int .i64 (newF l fuel).fuel, .string ByteArray.empty, .string ByteArray.empty, .int .i64 0]) 29))) (by (repeat (first | with_reducible exact grew_refl _ | with_reducible assumption | with_reducible refine grew_split ?_ | with_reducible refine grew_mk ?_ | with_reducible refine grew_plus ?_ | with_reducible refine grew_alloc ?_ | with_reducible refine grew_drew ?_ | (with_reducible refine grew_set ?_ (by first | exact Nat.le_refl _ | omega | (simp [go_sem]; done) | (simp [go_sem]; omega)))))) hG (fun k hk => by have := (hR k hk).1; simp [go_sem, Ext.add] at this ⊢; omega)
  have O4 := hid hM
  have HB5 := hid hB5
  clear hq0 hq1 hq2 hq3 hq4 hq5 hq6 hq7 hq8 hq9
  (have hq0 := hB5.cell 0; have hq1 := hB5.cell 1; have hq2 := hB5.cell 2; have hq3 := hB5.cell 3; have hq4 := hB5.cell 4; have hq5 := hB5.cell 5; have hq6 := hB5.cell 6; have hq7 := hB5.cell 7; have hq8 := hB5.cell 8; have hq9 := hB5.cell 9; simp [go_sem] at hq0 hq1 hq2 hq3 hq4 hq5 hq6 hq7 hq8 hq9)
  clear hG hR hR2 hM hB5
  go_wp2_with fail
  (refine (l_heldConsole ⟨newF l fuel, A2', d2⟩ ByteArray.empty ByteArray.empty 0 1 _ (O4.out.sl.grew (by (repeat (first | with_reducible exact grew_refl _ | with_reducible assumption | with_reducible refine grew_split ?_ | with_reducible refine grew_mk ?_ | with_reducible refine grew_plus ?_ | with_reducible refine grew_alloc ?_ | with_reducible refine grew_drew ?_ | (with_reducible refine grew_set ?_ (by first | exact Nat.le_refl _ | omega | (simp [go_sem]; done) | (simp [go_sem]; omega))))))) (by simp only; omega) (by omega) (by omega)).mono ?_; rintro e w' ⟨rfl, gxe, hw⟩; have hb := blk_grew HB5.out (w' := w') (by rw [hw]; (repeat (first | with_reducible exact grew_refl _ | with_reducible assumption | with_reducible refine grew_split ?_ | with_reducible refine grew_mk ?_ | with_reducible refine grew_plus ?_ | with_reducible refine grew_alloc ?_ | with_reducible refine grew_drew ?_ | (with_reducible refine grew_set ?_ (by first | exact Nat.le_refl _ | omega | (simp [go_sem]; done) | (simp [go_sem]; omega)))))); subst hw; (try rw [plus_plus] at hb); have HB6 := hid hb; clear hq0 hq1 hq2 hq3 hq4 hq5 hq6 hq7 hq8 hq9; (have hq0 := hb.cell 0; have hq1 := hb.cell 1; have hq2 := hb.cell 2; have hq3 := hb.cell 3; have hq4 := hb.cell 4; have hq5 := hb.cell 5; have hq6 := hb.cell 6; have hq7 := hb.cell 7; have hq8 := hb.cell 8; have hq9 := hb.cell 9; simp [go_sem] at hq0 hq1 hq2 hq3 hq4 hq5 hq6 hq7 hq8 hq9); clear hb; go_wp2_with fail)
  clear hq0 hq1 hq2 hq3 hq4 hq5 hq6 hq7 hq8 hq9
  (refine (l_toIntS l A c _ (HV.out.grew (by (repeat (first | with_reducible exact grew_refl _ | with_reducible assumption | with_reducible refine grew_split ?_ | with_reducible refine grew_mk ?_ | with_reducible refine grew_plus ?_ | with_reducible refine grew_alloc ?_ | with_reducible refine grew_drew ?_ | (with_reducible refine grew_set ?_ (by first | exact Nat.le_refl _ | omega | (simp [go_sem]; done) | (simp [go_sem]; omega))))))) (by omega)).mono ?_; rintro e w' ⟨⟨AU4, rfl, hoU4⟩, gxU4, rfl⟩; (try rw [plus_plus] at hoU4); have U4 := hid hoU4; clear hoU4; go_wp2_with fail)
  refine (i_NewConsole l _ _ fuel _ U4.out.sl hl').mono ?_
  rintro e w' ⟨⟨A3', d3, rfl, hO5⟩, gs3, rfl⟩
  (try rw [plus_plus] at hO5)
  have O5 := hid (DayV.At.mk (v := ⟨newF l fuel, A3', d3⟩) hO5.sl HDL.out)
  clear hO5
  go_wp2_with fail
  refine (l_eqConsole (newF l fuel) ByteArray.empty ByteArray.empty 0 A3' A1' d3 d1 _ (O5.out.grew (by (repeat (first | with_reducible exact grew_refl _ | with_reducible assumption | with_reducible refine grew_split ?_ | with_reducible refine grew_mk ?_ | with_reducible refine grew_plus ?_ | with_reducible refine grew_alloc ?_ | with_reducible refine grew_drew ?_ | (with_reducible refine grew_set ?_ (by first | exact Nat.le_refl _ | omega | (simp [go_sem]; done) | (simp [go_sem]; omega))))))) (O1.out.grew (by (repeat (first | with_reducible exact grew_refl _ | with_reducible assumption | with_reducible refine grew_split ?_ | with_reducible refine grew_mk ?_ | with_reducible refine grew_plus ?_ | with_reducible refine grew_alloc ?_ | with_reducible refine grew_drew ?_ | (with_reducible refine grew_set ?_ (by first | exact Nat.le_refl _ | omega | (simp [go_sem]; done) | (simp [go_sem]; omega)))))))).mono ?_
  rintro e w' ⟨rfl, gxe, hw⟩
  have hb := blk_grew HB6.out (w' := w') (by rw [hw]; (repeat (first | with_reducible exact grew_refl _ | with_reducible assumption | with_reducible refine grew_split ?_ | with_reducible refine grew_mk ?_ | with_reducible refine grew_plus ?_ | with_reducible refine grew_alloc ?_ | with_reducible refine grew_drew ?_ | (with_reducible refine grew_set ?_ (by first | exact Nat.le_refl _ | omega | (simp [go_sem]; done) | (simp [go_sem]; omega))))))
  subst hw
  (try rw [plus_plus] at hb)
  (have hq0 := hb.cell 0; have hq1 := hb.cell 1; have hq2 := hb.cell 2; have hq3 := hb.cell 3; have hq4 := hb.cell 4; have hq5 := hb.cell 5; have hq6 := hb.cell 6; have hq7 := hb.cell 7; have hq8 := hb.cell 8; have hq9 := hb.cell 9; simp [go_sem] at hq0 hq1 hq2 hq3 hq4 hq5 hq6 hq7 hq8 hq9)
  clear hb
  go_wp2_with fail
  refine (l_heldConsole ⟨newF l fuel, A2', d2⟩ ByteArray.empty ByteArray.empty 0 1 _ (O4.out.sl.grew (by (repeat (first | with_reducible exact grew_refl _ | with_reducible assumption | with_reducible refine grew_split ?_ | with_reducible refine grew_mk ?_ | with_reducible refine grew_plus ?_ | with_reducible refine grew_alloc ?_ | with_reducible refine grew_drew ?_ | (with_reducible refine grew_set ?_ (by first | exact Nat.le_refl _ | omega | (simp [go_sem]; done) | (simp [go_sem]; omega))))))) (by simp only; omega) (by omega) (by omega)).mono ?_
  (rintro e w' ⟨rfl, gx, rfl⟩)
  go_wp2_with fail
  go_ret
  exact ⟨rfl, by (repeat (first | with_reducible exact grew_refl _ | with_reducible assumption | with_reducible refine grew_split ?_ | with_reducible refine grew_mk ?_ | with_reducible refine grew_plus ?_ | with_reducible refine grew_alloc ?_ | with_reducible refine grew_drew ?_ | (with_reducible refine grew_set ?_ (by first | exact Nat.le_refl _ | omega | (simp [go_sem]; done) | (simp [go_sem]; omega)))))⟩
set_option maxRecDepth 100000 in
theorem open_ints' {H : Type} {enc : TypeId × Value → H} {w : World} {r : Reach} {b0 base : Nat} {spare : Nat → Bool} {held : Bool} {v : Value} {d : DataW H} {p : List MemPlace} (hv : Value.okWide Try.prog w r b0 22 v) (h : DataW.Trod enc Try.prog w base spare held 22 v d p) :
    ∃ (A : Option Addr) (c : Nat) (l : List Int), v = .slice A l.length c ∧ Sl w 1 intRow A l ∧ l.length ≤ maxLen := by
  obtain ⟨a, n, c, rfl⟩ := okWide_slice Try.underlying22 hv
  obtain ⟨fuel, hf⟩ := h
  obtain ⟨A, c, l, e, hS, hl, hln⟩ := read_list intRow 1 (fun _ => True) Try.underlying22 (by kernel_rfl) (fun _ => ⟨_, rfl⟩) (fun n cs y h => by
    obtain ⟨k, e, _, _⟩ := DataW.trod_int Try.underlying3 h
    exact ⟨k, trivial, e⟩) hf
  simp only [Value.cells, List.cons.injEq, and_true] at e
  exact ⟨A, c, l, by simpa using e, hS, hln⟩
theorem fnExactNewConsole_own : ownKnob Try.prog.godebug = none := by kernel_rfl
theorem fnExactNewConsole_laidOut : laidOutB Try.prog = true := by kernel_rfl
set_option maxRecDepth 100000 in
theorem fnExactNewConsole_lifted (os : Os) (started : os.Started) (H : Type) (enc : TypeId × Value → H) :
    ReturnsInHanded {} Try.checked os 3 .any (Rows.fnExactNewConsoleSpec.pre6 enc Try.prog Try.f3 Rows.fnExactNewConsoleRow.domain false) (Rows.fnExactNewConsoleSpec.post enc Try.prog Try.f3 false true false false) := by
  refine returnsInHanded_of_change (C := Try.checked) fnExactNewConsole_own started (by kernel_rfl) Try.func3
    (ChangeSpec.witness6 (enc := enc) (C := Try.checked) false ⟨#[], #[.slice none 0 0, .int .i64 0], []⟩ 8 (by kernel_rfl) (by kernel_rfl) (by kernel_rfl) (by kernel_rfl)) ?_
  intro W base args ds gs before hval0 hW hcnd _
  have hval : ∀ (j : Nat) t v, Try.f3.params[j]? = some t → args[j]? = some v → Value.okWide Try.prog W .any base t v := hval0
  have hW' := hW
  obtain ⟨p, q, hA0, hV, rfl, hfz, hnd⟩ := hW
  have hA : DataW.TrodAll enc Try.prog W 0 (fun _ => true) true Try.f3.params.toList args.toList ds p := hA0
  rw [Try.params3] at hA hval
  obtain ⟨v0, vs0, d0, ds0, p0, q0, hargs, rfl, rfl, h0, r0⟩ := trodAll_cons hA
  obtain ⟨v1, vs1, d1, ds1, p1, q1, rfl, rfl, rfl, h1, r1⟩ := trodAll_cons r0
  obtain ⟨rfl, rfl, rfl⟩ := trodAll_nil r1
  obtain rfl : args = #[v0, v1] := by cases args; simp_all
  obtain ⟨rfl, rfl⟩ := trodVars_none hV
  have k0 := h0
  have lt0 : ∀ x ∈ p0, x.block < W.heap.size := by obtain ⟨m, hm⟩ := k0; exact DataW.trod_lt m _ _ _ hm
  have k1 := h1
  have lt1 : ∀ x ∈ p1, x.block < W.heap.size := by obtain ⟨m, hm⟩ := k1; exact DataW.trod_lt m _ _ _ hm
  obtain ⟨A, c, l, rfl, hS, hl⟩ := open_ints' (hval 0 22 v0 rfl rfl) h0
  obtain ⟨m, rfl, _, _, _⟩ := open_int Try.underlying3 (hval 1 3 v1 rfl rfl) h1
  clear hA0 hval0
  refine (l_FnExactNewConsole l A c m W hS hl).mono fun e W' ⟨he, hg⟩ => ?_
  have bel := below_of_grew hg
  subst he
  exact ⟨_, rfl, _, _, _, [], _, [], hW', trodAll_mk1 (shut_bool Try.underlying4 _), (trodAll_cons_mk (Below.trod fnExactNewConsole_laidOut (by kernel_rfl) (of_decide_eq_true (by kernel_rfl)) k0 bel lt0) (trodAll_cons_mk (Below.trod fnExactNewConsole_laidOut (by kernel_rfl) (of_decide_eq_true (by kernel_rfl)) k1 bel lt1) trodAll_mk0)), rfl, bel.frame _, fun h => by cases h⟩
theorem fnExactNewConsole_over : Rows.fnExactNewConsoleRow.holds Try.pinned (OpenSpec.ofChange Rows.fnExactNewConsoleSpec) :=
  OpenClaim.holds_of_wide 3 Try.f3 rfl rfl rfl rfl rfl rfl rfl ⟨rfl, rfl, rfl, rfl, rfl⟩ rfl rfl rfl rfl rfl (by kernel_rfl) Try.func3 (by kernel_rfl)
    (of_decide_eq_true (by kernel_rfl)) (by unfold Func.isWrapper; first | (rw [if_pos (by decide +kernel)]; kernel_rfl) | (rw [if_neg (by decide +kernel)]; exact ⟨rfl, rfl⟩))
    (fun os started H enc _ => fnExactNewConsole_lifted os started H enc)
theorem fnExactNewConsole_holds : Rows.FnExactNewConsoleSaid := fnExactNewConsole_over
end Go.Proofs.Ytjigkadgcddhgaa
