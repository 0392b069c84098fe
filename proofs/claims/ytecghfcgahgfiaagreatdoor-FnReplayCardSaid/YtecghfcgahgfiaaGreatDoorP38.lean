import Derived.Test.YtecghfcgahgfiaaGreatDoorP36
import Derived.Test.YtecghfcgahgfiaaGreatDoorP17
import Derived.Test.YtecghfcgahgfiaaGreatDoorP37
import Derived.Test.YtecghfcgahgfiaaGreatDoorP18
import Derived.Deep.RegionHeld3
import Derived.Deep.CutBlock
import Derived.Deep.DeepCutAuto
import Derived.IntWalk
import Derived.Deep.DrawnRows
import Derived.Test.YtecghfcgahgfiaaGreatDoorP29
import Derived.BigRegion
/- The reference's draw of a day. -/
namespace Go.Proofs.YtecghfcgahgfiaaGreatDoor
open Go.RowKit

attribute [local go_sem ↓] Go.wp_at_zero Go.wp_at_succ
theorem OwnF.apartE {α : Type} {B : Nat} {e t : TypeId} {s : Nat} {cells : α → List Value} {w w' : World} {A : Option Addr} {l : List α} {k : Nat} {cs : Array Value} (h : OwnF B e s cells w A l) (hb : Blk w k t cs) (hne : t ≠ e) (hg : w.grownBy w' (some k)) : OwnF B e s cells w' A l := by
  rcases h with h | ⟨g, cur, hA, hB, hK, r⟩
  · exact .inl h
  · refine .inr ⟨g, cur, hA, hB, hK.grown hg (fun e1 => ?_), r⟩
    injection e1 with e1
    subst e1
    unfold Blk at hb hK
    rw [hK] at hb
    injection hb with hb
    injection hb with _ h2
    exact hne h2.symm
theorem set7v {w : World} {g : Nat} {t : TypeId} {c0 c1 c2 c3 c4 c5 c6 u0 u1 u2 u3 u4 u5 u6 : Value} (h : Blk w g t #[c0, c1, c2, c3, c4, c5, c6]) : Blk (((((((w.setCell ⟨g, 0, none⟩ u0).setCell ⟨g, 1, none⟩ u1).setCell ⟨g, 2, none⟩ u2).setCell ⟨g, 3, none⟩ u3).setCell ⟨g, 4, none⟩ u4).setCell ⟨g, 5, none⟩ u5).setCell ⟨g, 6, none⟩ u6) g t #[u0, u1, u2, u3, u4, u5, u6] := by
  have h7 := ((((((h.set_ 0 u0).set_ 1 u1).set_ 2 u2).set_ 3 u3).set_ 4 u4).set_ 5 u5).set_ 6 u6
  simp only [List.setIfInBounds_toArray, List.set_cons_zero, List.set_cons_succ] at h7
  exact h7
theorem exit_opaq8 {K : Act → World → Prop} {Q : Exit → Act → World → Prop} {a : Act} {W : World} (F : World → Prop) (hF : F W) (h : ∀ wr, F wr → Exit.then K Q .normal a wr) : Exit.then K Q .normal a W := h W hF
theorem newF_len8 (ms : List Int) (fuel : Int) : (newF ms fuel).lines.length ≤ 8 := by
  unfold newF
  split
  · rename_i h
    have := DayC.bounds h
    omega
  · simp [noDay]
theorem calls_opaq8 {P : Program} {f : FuncId} {args : Array Value} {W : World} {R : Ending → World → Prop} (F : World → Prop) (hF : F W) (h : ∀ wr, F wr → Calls P f args wr R) : Calls P f args W R := h W hF
set_option maxHeartbeats 4000000 in
set_option maxRecDepth 10000 in
theorem s_surveyDay (w0 : World) (g : Nat) (A : Option Addr) (c : Nat) (bs : List Int) (M : Int) (w : World) (hA : Code0 w0 A bs) (hC : CurU w0 w g A c bs M) (h1 : M ≤ 1099511600000) :
    Calls Tryz.prog 59 #[.pointer (some ⟨g, 0, none⟩)] w fun e w' => (∃ v : DayV, e = .returned v.val ∧ v.core.lines.length ≤ 8 ∧ OwnF w.heap.size 80 2 LineR.row w' v.A v.core.lines) ∧ CurU w0 w' g A c bs (M + 4000) ∧ w.grownBy w' (some g) := by
  have HC := hid hC
  have hgl := hC.lt
  have hgf := hC.far
  clear hC
  go_enter Tryz.func59, Tryz.ntmps59
  go_wp2_with fail
  refine (s_minutes25 w0 g A c bs M _ hA (HC.out.grew' (by (repeat (first | with_reducible exact grew_refl _ | with_reducible assumption | with_reducible refine grew_split ?_ | with_reducible refine grew_mk ?_ | with_reducible refine grew_plus ?_ | with_reducible refine grew_alloc ?_ | with_reducible refine grew_drew ?_ | (with_reducible refine grew_set ?_ (by first | exact Nat.le_refl _ | omega | (simp [go_sem]; done) | (simp [go_sem]; omega))))))) (by omega)).mono ?_
  rintro e w1 ⟨⟨B, d, ms, rfl, hS1, hml⟩, hC1, hG1⟩
  have HC1 := hid hC1
  have HG1 := hid hG1
  have HS1 := hid hS1
  clear hC1 hG1 hS1
  go_wp2_with fail
  refine (s_amongL w0 g A c bs _ [0, 99, 100, 400, 2000, 9999] _ rfl _ _ _ (by simp) hA HC1.out (by omega) (by decide) (by decide)).mono ?_
  rintro e w2 ⟨⟨fu, rfl, -⟩, hC2, hG2⟩
  have HS2 := hid (HS1.out.kept hG2 (fun k hk => by injection hk with hk; subst hk; simp; omega))
  have HC2 := hid hC2
  have HG2 := hid (HG1.out.trans hG2)
  clear hC2 hG2
  go_wp2_with fail
  refine (s_NewSurveyDay ms B d fu _ HS2.out.sl (by omega)).mono ?_
  rintro e w' ⟨⟨A1, d1, rfl, hO1⟩, gx1, rfl⟩
  have hsz := HG2.out.size
  simp at hsz
  have HO1 := hid hO1
  have hl8 := newF_len8 ms fu
  clear hO1
  go_wp2_with fail
  generalize hb : w2.heap.size + gx1.objs.size = b
  have hsb : w.heap.size + 1 ≤ b := by omega
  refine calls_opaq8 (fun wr => Blk wr b 26 #[.int .i64 ((newF ms fu)).minute, .int .i64 ((newF ms fu)).state, .slice A1 ((newF ms fu)).lines.length d1, .int .i64 ((newF ms fu)).line, .int .i64 ((newF ms fu)).since, .int .i64 ((newF ms fu)).cast, .int .i64 ((newF ms fu)).fuel] ∧ OwnF w.heap.size 80 2 LineR.row wr A1 (newF ms fu).lines ∧ CurU w0 wr g A c bs (M + 110) ∧ ((w.alloc (.cells #[.int .i64 0, .int .i64 0, .slice none 0 0, .int .i64 0, .int .i64 0, .int .i64 0, .int .i64 0] 26))).grownBy wr (some g)) ⟨blk_new (by subst hb; simp [go_sem]), (OwnF.grew HO1.out (grew_alloc (grew_refl _))).less (by omega), (HC2.out.grew' (by (repeat (first | with_reducible exact grew_refl _ | with_reducible assumption | with_reducible refine grew_split ?_ | with_reducible refine grew_mk ?_ | with_reducible refine grew_plus ?_ | with_reducible refine grew_alloc ?_ | with_reducible refine grew_drew ?_ | (with_reducible refine grew_set ?_ (by first | exact Nat.le_refl _ | omega | (simp [go_sem]; done) | (simp [go_sem]; omega))))))).le (by omega), HG2.out.trans (grown_of_grew (by (repeat (first | with_reducible exact grew_refl _ | with_reducible assumption | with_reducible refine grew_split ?_ | with_reducible refine grew_mk ?_ | with_reducible refine grew_plus ?_ | with_reducible refine grew_alloc ?_ | with_reducible refine grew_drew ?_ | (with_reducible refine grew_set ?_ (by first | exact Nat.le_refl _ | omega | (simp [go_sem]; done) | (simp [go_sem]; omega)))))) _)⟩ ?_
  clear hb HO1 HC2 HG2 HS2 HC1 HG1 HS1 hsz
  rintro wq ⟨hB, hO, hC, hG⟩
  refine (s_pick w0 g A c bs _ 24 _ hA hC (by omega) (by omega)).mono ?_
  rintro e w3 ⟨⟨n, rfl, n0, n1⟩, hC3, hG3⟩
  have HB3 := hid (hB.grown hG3 (fun e => by injection e with e; omega))
  have HO3 := hid (hO.kept hG3 (fun k hk => by injection hk with hk; omega))
  have HC3 := hid hC3
  have HG3 := hid (hG.trans hG3)
  clear hB hO hC hG hC3 hG3
  go_wp2_with fail
  go_loopw [5] (fun n wr => ∃ (v : DayV) (m : Nat), n = .int .i64 m ∧ m ≤ 24 ∧ Blk wr b 26 #[.int .i64 (v.core).minute, .int .i64 (v.core).state, .slice v.A (v.core).lines.length v.c, .int .i64 (v.core).line, .int .i64 (v.core).since, .int .i64 (v.core).cast, .int .i64 (v.core).fuel] ∧ OwnF w.heap.size 80 2 LineR.row wr v.A v.core.lines ∧ v.core.lines.length ≤ 8 ∧ CurU w0 wr g A c bs (M + 200 + 50 * (24 - m)) ∧ ((w.alloc (.cells #[.int .i64 0, .int .i64 0, .slice none 0 0, .int .i64 0, .int .i64 0, .int .i64 0, .int .i64 0] 26))).grownBy wr (some g)) (fun n _ => (intOf n).toNat)
  case atStart => exact ⟨⟨newF ms fu, A1, d1⟩, n.toNat, vint (by omega), by omega, HB3.out, HO3.out, hl8, HC3.out.le (by omega), HG3.out⟩
  case round =>
    obtain ⟨v, m, rfl, hm, hB, hO, hv8, hC, hG⟩ := hrel
    have HB := hid hB
    have HO := hid hO
    have HC := hid hC
    have HG := hid hG
    have hbl := hB.lt
    (have hq0 := hB.cell 0; have hq1 := hB.cell 1; have hq2 := hB.cell 2; have hq3 := hB.cell 3; have hq4 := hB.cell 4; have hq5 := hB.cell 5; have hq6 := hB.cell 6; simp [go_sem] at hq0 hq1 hq2 hq3 hq4 hq5 hq6)
    (have hf0 := hB.frozen 0; have hf1 := hB.frozen 1; have hf2 := hB.frozen 2; have hf3 := hB.frozen 3; have hf4 := hB.frozen 4; have hf5 := hB.frozen 5; have hf6 := hB.frozen 6)
    have HAT := hid (DayV.At.mk (v := v) hO.sl (Nat.le_trans hv8 (by decide)))
    clear hB hO hC hG
    by_cases hm0 : 0 < m
    · go_wp2_with fail
      have hgw := HC.out.lt
      have KEEP : Hid (∀ W : World, Blk W b 26 #[.int .i64 (v.core).minute, .int .i64 (v.core).state, .slice v.A (v.core).lines.length v.c, .int .i64 (v.core).line, .int .i64 (v.core).since, .int .i64 (v.core).cast, .int .i64 (v.core).fuel] → ((fun w' => w'.cell? ⟨b, 0, none⟩ = some (.int .i64 v.core.minute) ∧ w'.cell? ⟨b, 1, none⟩ = some (.int .i64 v.core.state) ∧ w'.cell? ⟨b, 2, none⟩ = some (.slice v.A v.core.lines.length v.c) ∧ w'.cell? ⟨b, 3, none⟩ = some (.int .i64 v.core.line) ∧ w'.cell? ⟨b, 4, none⟩ = some (.int .i64 v.core.since) ∧ w'.cell? ⟨b, 5, none⟩ = some (.int .i64 v.core.cast) ∧ w'.cell? ⟨b, 6, none⟩ = some (.int .i64 v.core.fuel))) W) := hid (by
        intro W hbW
        (have hr0 := hbW.cell 0; have hr1 := hbW.cell 1; have hr2 := hbW.cell 2; have hr3 := hbW.cell 3; have hr4 := hbW.cell 4; have hr5 := hbW.cell 5; have hr6 := hbW.cell 6; simp [go_sem] at hr0 hr1 hr2 hr3 hr4 hr5 hr6)
        simp only [hr0, hr1, hr2, hr3, hr4, hr5, hr6, and_self])
      go_region_held3 (fun w' => w'.cell? ⟨b, 0, none⟩ = some (.int .i64 v.core.minute) ∧ w'.cell? ⟨b, 1, none⟩ = some (.int .i64 v.core.state) ∧ w'.cell? ⟨b, 2, none⟩ = some (.slice v.A v.core.lines.length v.c) ∧ w'.cell? ⟨b, 3, none⟩ = some (.int .i64 v.core.line) ∧ w'.cell? ⟨b, 4, none⟩ = some (.int .i64 v.core.since) ∧ w'.cell? ⟨b, 5, none⟩ = some (.int .i64 v.core.cast) ∧ w'.cell? ⟨b, 6, none⟩ = some (.int .i64 v.core.fuel)) ((refine KEEP.out _ ?_; (repeat (first | with_reducible exact HB5.out | with_reducible exact HB.out | with_reducible refine Blk.plus ?_ _ | with_reducible refine Blk.alloc ?_ _ | with_reducible refine blk_drew ?_ | with_reducible refine Blk.far ?_ (by simp <;> omega) _)))) (first | (go_at_call 63; refine (s_dayStep w0 g A c bs _ v _ hA (HC.out.grew' (by (repeat (first | with_reducible exact grew_refl _ | with_reducible assumption | with_reducible refine grew_split ?_ | with_reducible refine grew_mk ?_ | with_reducible refine grew_plus ?_ | with_reducible refine grew_alloc ?_ | with_reducible refine grew_drew ?_ | (with_reducible refine grew_set ?_ (by first | exact Nat.le_refl _ | omega | (simp [go_sem]; done) | (simp [go_sem]; omega))))))) (by omega) (by omega)).mono ?_; rintro e w5 ⟨⟨k, x, rfl, -, -⟩, hC5, hG5⟩; have HC5 := hid hC5; have HG5 := hid hG5; have HO5 := hid (OwnF.kept (OwnF.grew HO.out (by (repeat (first | with_reducible exact grew_refl _ | with_reducible assumption | with_reducible refine grew_split ?_ | with_reducible refine grew_mk ?_ | with_reducible refine grew_plus ?_ | with_reducible refine grew_alloc ?_ | with_reducible refine grew_drew ?_ | (with_reducible refine grew_set ?_ (by first | exact Nat.le_refl _ | omega | (simp [go_sem]; done) | (simp [go_sem]; omega))))))) hG5 (fun k hk => by injection hk with hk; omega)); (first | (have HB5 := hid (Blk.grown (blk_drew HB.out) hG5 (fun e => by injection e with e; omega))) | (have HB5 := hid (Blk.grown (Blk.alloc (blk_drew HB.out) _) hG5 (fun e => by injection e with e; omega)))); (try (have hZ8 := Blk.grown (blk_new (w := wr.drew) (b := wr.heap.size) (t := 26) (cs := #[.int .i64 0, .int .i64 0, .slice none 0 0, .int .i64 0, .int .i64 0, .int .i64 0, .int .i64 0]) rfl) hG5 (fun e => by injection e with e; omega); (have hz0 := hZ8.cell 0; have hz1 := hZ8.cell 1; have hz2 := hZ8.cell 2; have hz3 := hZ8.cell 3; have hz4 := hZ8.cell 4; have hz5 := hZ8.cell 5; have hz6 := hZ8.cell 6; simp [go_sem] at hz0 hz1 hz2 hz3 hz4 hz5 hz6); (have hy0 := hZ8.frozen 0; have hy1 := hZ8.frozen 1; have hy2 := hZ8.frozen 2; have hy3 := hZ8.frozen 3; have hy4 := hZ8.frozen 4; have hy5 := hZ8.frozen 5; have hy6 := hZ8.frozen 6); have hzl := hZ8.lt; have HZ8 := hid hZ8; clear hZ8)); clear hC5 hG5) | (go_at_call 87; refine (s_StepDay v k x _ ⟨(HO5.out.grew (by (repeat (first | with_reducible exact grew_refl _ | with_reducible assumption | with_reducible refine grew_split ?_ | with_reducible refine grew_mk ?_ | with_reducible refine grew_plus ?_ | with_reducible refine grew_alloc ?_ | with_reducible refine grew_drew ?_ | (with_reducible refine grew_set ?_ (by first | exact Nat.le_refl _ | omega | (simp [go_sem]; done) | (simp [go_sem]; omega))))))).sl, HAT.out.len⟩).mono ?_; rintro e w' ⟨⟨A6, d6, rfl, hO6⟩, gx6, rfl⟩; have hl6 := stepAll_len v.core k x; generalize stepAll v.core k x = p at hO6 hl6 ⊢; have HO6 := hid hO6; clear hO6))
      all_goals
        have hz5 := HB5.out.lt
        obtain ⟨nd, q⟩ := p
        (try simp only at hl6 ⊢)
        refine exit_opaq8 (fun W => Blk W b 26 #[.int .i64 (v.core).minute, .int .i64 (v.core).state, .slice v.A (v.core).lines.length v.c, .int .i64 (v.core).line, .int .i64 (v.core).since, .int .i64 (v.core).cast, .int .i64 (v.core).fuel] ∧ Blk W _ 26 #[.int .i64 (nd).minute, .int .i64 (nd).state, .slice A6 (nd).lines.length d6, .int .i64 (nd).line, .int .i64 (nd).since, .int .i64 (nd).cast, .int .i64 (nd).fuel] ∧ OwnF w.heap.size 80 2 LineR.row W v.A v.core.lines ∧ OwnF w.heap.size 80 2 LineR.row W A6 nd.lines ∧ CurU w0 W g A c bs (M + 200 + 50 * (24 - (m : Int)) + 40) ∧ ((w.alloc (.cells #[.int .i64 0, .int .i64 0, .slice none 0 0, .int .i64 0, .int .i64 0, .int .i64 0, .int .i64 0] 26))).grownBy W (some g)) ⟨by (repeat (first | with_reducible exact HB5.out | with_reducible refine Blk.plus ?_ _ | with_reducible refine Blk.alloc ?_ _ | with_reducible refine Blk.far ?_ (by simp <;> omega) _)),
          by first
            | with_reducible exact blk_new rfl
            | with_reducible exact Blk.plus (blk_new rfl) _
            | with_reducible exact Blk.plus (set7v HZ8.out) _,
          by first
            | with_reducible exact OwnF.grew (OwnF.apartE HO5.out HZ8.out (by decide) (grown_set (grown_set (grown_set (grown_set (grown_set (grown_set (grown_set (grown_refl _ _))))))))) (grew_plus (grew_refl _))
            | with_reducible exact OwnF.grew HO5.out (by (repeat (first | with_reducible exact grew_refl _ | with_reducible assumption | with_reducible refine grew_split ?_ | with_reducible refine grew_mk ?_ | with_reducible refine grew_plus ?_ | with_reducible refine grew_alloc ?_ | with_reducible refine grew_drew ?_ | (with_reducible refine grew_set ?_ (by first | exact Nat.le_refl _ | omega | (simp [go_sem]; done) | (simp [go_sem]; omega)))))),
          by first
            | with_reducible exact (OwnF.grew HO6.out (grew_alloc (grew_refl _))).less (by first | omega | (simp [go_sem]; omega))
            | with_reducible exact (OwnF.base HO6.out (Nat.le_refl _) (by simp [go_sem])).less (by first | omega | (simp [go_sem]; omega)),
          by first
            | (have _ := HZ8; with_reducible exact (HC5.out.kept (grown_set (g := wr.heap.size) (grown_set (grown_set (grown_set (grown_set (grown_set (grown_set (grown_refl _ _)))))))) (fun k hk => by injection hk with hk; omega)).grew' (grew_plus (grew_refl _)))
            | with_reducible exact HC5.out.grew' (by (repeat (first | with_reducible exact grew_refl _ | with_reducible assumption | with_reducible refine grew_split ?_ | with_reducible refine grew_mk ?_ | with_reducible refine grew_plus ?_ | with_reducible refine grew_alloc ?_ | with_reducible refine grew_drew ?_ | (with_reducible refine grew_set ?_ (by first | exact Nat.le_refl _ | omega | (simp [go_sem]; done) | (simp [go_sem]; omega)))))),
          by first
            | (have _ := HZ8; with_reducible exact (grown_join (HG.out.trans ((grown_of_grew (by (repeat (first | with_reducible exact grew_refl _ | with_reducible assumption | with_reducible refine grew_split ?_ | with_reducible refine grew_mk ?_ | with_reducible refine grew_plus ?_ | with_reducible refine grew_alloc ?_ | with_reducible refine grew_drew ?_ | (with_reducible refine grew_set ?_ (by first | exact Nat.le_refl _ | omega | (simp [go_sem]; done) | (simp [go_sem]; omega)))))) _).trans HG5.out)) (grown_set (g := wr.heap.size) (grown_set (grown_set (grown_set (grown_set (grown_set (grown_set (grown_refl _ _)))))))) (fun k hk => by injection hk with hk; simp; omega)).trans (grown_of_grew (grew_plus (grew_refl _)) _))
            | with_reducible exact (HG.out.trans ((grown_of_grew (by (repeat (first | with_reducible exact grew_refl _ | with_reducible assumption | with_reducible refine grew_split ?_ | with_reducible refine grew_mk ?_ | with_reducible refine grew_plus ?_ | with_reducible refine grew_alloc ?_ | with_reducible refine grew_drew ?_ | (with_reducible refine grew_set ?_ (by first | exact Nat.le_refl _ | omega | (simp [go_sem]; done) | (simp [go_sem]; omega)))))) _).trans HG5.out)).trans (grown_of_grew (by (repeat (first | with_reducible exact grew_refl _ | with_reducible assumption | with_reducible refine grew_split ?_ | with_reducible refine grew_mk ?_ | with_reducible refine grew_plus ?_ | with_reducible refine grew_alloc ?_ | with_reducible refine grew_drew ?_ | (with_reducible refine grew_set ?_ (by first | exact Nat.le_refl _ | omega | (simp [go_sem]; done) | (simp [go_sem]; omega)))))) _)⟩ ?_
        rintro w7 ⟨hB7, hN7, hO7, hQ7, hC7, hG7⟩
        have HB7 := hid hB7
        have HN7 := hid hN7
        have HO7 := hid hO7
        have HQ7 := hid hQ7
        have HC7 := hid hC7
        have HG7 := hid hG7
        have hbl7 := hB7.lt
        clear hq0 hq1 hq2 hq3 hq4 hq5 hq6 hf0 hf1 hf2 hf3 hf4 hf5 hf6 KEEP
        (have hq0 := hB7.cell 0; have hq1 := hB7.cell 1; have hq2 := hB7.cell 2; have hq3 := hB7.cell 3; have hq4 := hB7.cell 4; have hq5 := hB7.cell 5; have hq6 := hB7.cell 6; simp [go_sem] at hq0 hq1 hq2 hq3 hq4 hq5 hq6)
        (have hf0 := hB7.frozen 0; have hf1 := hB7.frozen 1; have hf2 := hB7.frozen 2; have hf3 := hB7.frozen 3; have hf4 := hB7.frozen 4; have hf5 := hB7.frozen 5; have hf6 := hB7.frozen 6)
        (have hr0 := hN7.cell 0; have hr1 := hN7.cell 1; have hr2 := hN7.cell 2; have hr3 := hN7.cell 3; have hr4 := hN7.cell 4; have hr5 := hN7.cell 5; have hr6 := hN7.cell 6; simp [go_sem] at hr0 hr1 hr2 hr3 hr4 hr5 hr6)
        clear hB7 hN7 hO7 hQ7 hC7 hG7
        have hsub : IntKind.i64.wrap ((m : Int) - 1) = ((m - 1 : Nat) : Int) := by rw [IntWalk.i64_in _ (by omega)]; omega
        cases q
        · go_wp2_with fail
          go_roundw
          case rel => exact ⟨v, m - 1, rfl, by omega, HB7.out, HO7.out, hv8, HC7.out.le (by omega), HG7.out⟩
          case measure => simp [intOf]; omega
        · go_wp2_with fail
          go_roundw
          case rel =>
            exact ⟨⟨nd, A6, d6⟩, m - 1, rfl, by omega, set7v HB7.out, OwnF.apartE HQ7.out HB7.out (by decide) (grown_set (g := b) (grown_set (grown_set (grown_set (grown_set (grown_set (grown_set (grown_refl _ _)))))))), hl6, (HC7.out.kept (grown_set (g := b) (grown_set (grown_set (grown_set (grown_set (grown_set (grown_set (grown_refl _ _)))))))) (fun k hk => by injection hk with hk; omega)).le (by omega), grown_join HG7.out (grown_set (g := b) (grown_set (grown_set (grown_set (grown_set (grown_set (grown_set (grown_refl _ _)))))))) (fun k hk => by injection hk with hk; simp; omega)⟩
          case measure => simp [intOf]; omega
    · obtain rfl : m = 0 := by omega
      have hZ := (blk_new (w := w) (b := w.heap.size) (t := 26) (cs := #[.int .i64 0, .int .i64 0, .slice none 0 0, .int .i64 0, .int .i64 0, .int .i64 0, .int .i64 0]) rfl).grown HG.out (fun e => by injection e with e; omega)
      have HZ := hid hZ
      clear hZ
      go_wp2_with fail
      refine (s_pick w0 g A c bs _ 32 _ hA HC.out (by omega) (by omega)).mono ?_
      rintro e w6 ⟨⟨y, rfl, y0, y1⟩, hC6, hG6⟩
      have hB6 := HB.out.grown hG6 (fun e => by injection e with e; omega)
      have HB6 := hid hB6
      have HO6 := hid (HO.out.kept hG6 (fun k hk => by injection hk with hk; omega))
      have HC6 := hid hC6
      have HZ6 := hid (HZ.out.grown hG6 (fun e => by injection e with e; omega))
      have HG6 := hid (HG.out.trans hG6)
      have hbl6 := hB6.lt
      clear hq0 hq1 hq2 hq3 hq4 hq5 hq6 hf0 hf1 hf2 hf3 hf4 hf5 hf6 hC6 hG6
      (have hq0 := hB6.cell 0; have hq1 := hB6.cell 1; have hq2 := hB6.cell 2; have hq3 := hB6.cell 3; have hq4 := hB6.cell 4; have hq5 := hB6.cell 5; have hq6 := hB6.cell 6; simp [go_sem] at hq0 hq1 hq2 hq3 hq4 hq5 hq6)
      (have hf0 := hB6.frozen 0; have hf1 := hB6.frozen 1; have hf2 := hB6.frozen 2; have hf3 := hB6.frozen 3; have hf4 := hB6.frozen 4; have hf5 := hB6.frozen 5; have hf6 := hB6.frozen 6)
      clear hB6
      go_upto_block 2 with fail
      go_cut [3] (fun p wx => p = .pointer (some ⟨b, 0, none⟩) ∧ ∃ v : DayV, Blk wx b 26 #[.int .i64 (v.core).minute, .int .i64 (v.core).state, .slice v.A (v.core).lines.length v.c, .int .i64 (v.core).line, .int .i64 (v.core).since, .int .i64 (v.core).cast, .int .i64 (v.core).fuel] ∧ OwnF w.heap.size 80 2 LineR.row wx v.A v.core.lines ∧ v.core.lines.length ≤ 8 ∧ CurU w0 wx g A c bs (M + 2000) ∧ ((w.alloc (.cells #[.int .i64 0, .int .i64 0, .slice none 0 0, .int .i64 0, .int .i64 0, .int .i64 0, .int .i64 0] 26))).grownBy wx (some g) ∧ Blk wx w.heap.size 26 #[.int .i64 0, .int .i64 0, .slice none 0 0, .int .i64 0, .int .i64 0, .int .i64 0, .int .i64 0])
      case first =>
        rcases (show y = 0 ∨ y = 1 ∨ y = 2 ∨ y = 3 ∨ 3 < y by omega) with rfl | rfl | rfl | rfl | hy5
        · go_wp2_with fail
          (refine (s_amongL w0 g A c bs _ [-1, 0, 1441] _ rfl _ _ _ (by simp) hA (HC6.out.grew' (by (repeat (first | with_reducible exact grew_refl _ | with_reducible assumption | with_reducible refine grew_split ?_ | with_reducible refine grew_mk ?_ | with_reducible refine grew_plus ?_ | with_reducible refine grew_alloc ?_ | with_reducible refine grew_drew ?_ | (with_reducible refine grew_set ?_ (by first | exact Nat.le_refl _ | omega | (simp [go_sem]; done) | (simp [go_sem]; omega))))))) (by omega) (by decide) (by decide)).mono ?_; rintro e w9 ⟨⟨x9, rfl, -⟩, hC9, hG9⟩; have HC9 := hid hC9; have HB9 := hid (HB6.out.grown hG9 (fun e => by injection e with e; omega)); have HO9 := hid (HO6.out.kept hG9 (fun k hk => by injection hk with hk; omega)); have HZ9 := hid (HZ6.out.grown hG9 (fun e => by injection e with e; omega)); have HG9 := hid (HG6.out.trans hG9); clear hC9 hG9 hq0 hq1 hq2 hq3 hq4 hq5 hq6 hf0 hf1 hf2 hf3 hf4 hf5 hf6; (have hq0 := HB9.out.cell 0; have hq1 := HB9.out.cell 1; have hq2 := HB9.out.cell 2; have hq3 := HB9.out.cell 3; have hq4 := HB9.out.cell 4; have hq5 := HB9.out.cell 5; have hq6 := HB9.out.cell 6; simp [go_sem] at hq0 hq1 hq2 hq3 hq4 hq5 hq6); (have hf0 := HB9.out.frozen 0; have hf1 := HB9.out.frozen 1; have hf2 := HB9.out.frozen 2; have hf3 := HB9.out.frozen 3; have hf4 := HB9.out.frozen 4; have hf5 := HB9.out.frozen 5; have hf6 := HB9.out.frozen 6); have hbl9 := HB9.out.lt)
          go_wp2_with fail
          go_meet
          exact ⟨rfl, ⟨⟨x9, v.core.state, v.core.lines, v.core.line, v.core.since, v.core.cast, v.core.fuel⟩, v.A, v.c⟩, HB9.out.set_ 0 _, OwnF.apartE HO9.out HB9.out (by decide) (grown_set (grown_refl _ _)), hv8, (HC9.out.kept (grown_set (g := b) (grown_refl _ _)) (fun k hk => by injection hk with hk; omega)).le (by omega), grown_join HG9.out (grown_set (g := b) (grown_refl _ _)) (fun k hk => by injection hk with hk; simp; omega), HZ9.out.far (by simp; omega) _⟩
        · go_wp2_with fail
          (refine (s_amongL w0 g A c bs _ [-1, 0, 1, 2, 3] _ rfl _ _ _ (by simp) hA (HC6.out.grew' (by (repeat (first | with_reducible exact grew_refl _ | with_reducible assumption | with_reducible refine grew_split ?_ | with_reducible refine grew_mk ?_ | with_reducible refine grew_plus ?_ | with_reducible refine grew_alloc ?_ | with_reducible refine grew_drew ?_ | (with_reducible refine grew_set ?_ (by first | exact Nat.le_refl _ | omega | (simp [go_sem]; done) | (simp [go_sem]; omega))))))) (by omega) (by decide) (by decide)).mono ?_; rintro e w9 ⟨⟨x9, rfl, -⟩, hC9, hG9⟩; have HC9 := hid hC9; have HB9 := hid (HB6.out.grown hG9 (fun e => by injection e with e; omega)); have HO9 := hid (HO6.out.kept hG9 (fun k hk => by injection hk with hk; omega)); have HZ9 := hid (HZ6.out.grown hG9 (fun e => by injection e with e; omega)); have HG9 := hid (HG6.out.trans hG9); clear hC9 hG9 hq0 hq1 hq2 hq3 hq4 hq5 hq6 hf0 hf1 hf2 hf3 hf4 hf5 hf6; (have hq0 := HB9.out.cell 0; have hq1 := HB9.out.cell 1; have hq2 := HB9.out.cell 2; have hq3 := HB9.out.cell 3; have hq4 := HB9.out.cell 4; have hq5 := HB9.out.cell 5; have hq6 := HB9.out.cell 6; simp [go_sem] at hq0 hq1 hq2 hq3 hq4 hq5 hq6); (have hf0 := HB9.out.frozen 0; have hf1 := HB9.out.frozen 1; have hf2 := HB9.out.frozen 2; have hf3 := HB9.out.frozen 3; have hf4 := HB9.out.frozen 4; have hf5 := HB9.out.frozen 5; have hf6 := HB9.out.frozen 6); have hbl9 := HB9.out.lt)
          go_wp2_with fail
          go_meet
          exact ⟨rfl, ⟨⟨v.core.minute, x9, v.core.lines, v.core.line, v.core.since, v.core.cast, v.core.fuel⟩, v.A, v.c⟩, HB9.out.set_ 1 _, OwnF.apartE HO9.out HB9.out (by decide) (grown_set (grown_refl _ _)), hv8, (HC9.out.kept (grown_set (g := b) (grown_refl _ _)) (fun k hk => by injection hk with hk; omega)).le (by omega), grown_join HG9.out (grown_set (g := b) (grown_refl _ _)) (fun k hk => by injection hk with hk; simp; omega), HZ9.out.far (by simp; omega) _⟩
        · go_wp2_with fail
          (refine (s_amongL w0 g A c bs _ [-2, 1440] _ rfl _ _ _ (by simp) hA (HC6.out.grew' (by (repeat (first | with_reducible exact grew_refl _ | with_reducible assumption | with_reducible refine grew_split ?_ | with_reducible refine grew_mk ?_ | with_reducible refine grew_plus ?_ | with_reducible refine grew_alloc ?_ | with_reducible refine grew_drew ?_ | (with_reducible refine grew_set ?_ (by first | exact Nat.le_refl _ | omega | (simp [go_sem]; done) | (simp [go_sem]; omega))))))) (by omega) (by decide) (by decide)).mono ?_; rintro e w9 ⟨⟨x9, rfl, -⟩, hC9, hG9⟩; have HC9 := hid hC9; have HB9 := hid (HB6.out.grown hG9 (fun e => by injection e with e; omega)); have HO9 := hid (HO6.out.kept hG9 (fun k hk => by injection hk with hk; omega)); have HZ9 := hid (HZ6.out.grown hG9 (fun e => by injection e with e; omega)); have HG9 := hid (HG6.out.trans hG9); clear hC9 hG9 hq0 hq1 hq2 hq3 hq4 hq5 hq6 hf0 hf1 hf2 hf3 hf4 hf5 hf6; (have hq0 := HB9.out.cell 0; have hq1 := HB9.out.cell 1; have hq2 := HB9.out.cell 2; have hq3 := HB9.out.cell 3; have hq4 := HB9.out.cell 4; have hq5 := HB9.out.cell 5; have hq6 := HB9.out.cell 6; simp [go_sem] at hq0 hq1 hq2 hq3 hq4 hq5 hq6); (have hf0 := HB9.out.frozen 0; have hf1 := HB9.out.frozen 1; have hf2 := HB9.out.frozen 2; have hf3 := HB9.out.frozen 3; have hf4 := HB9.out.frozen 4; have hf5 := HB9.out.frozen 5; have hf6 := HB9.out.frozen 6); have hbl9 := HB9.out.lt)
          go_wp2_with fail
          go_meet
          exact ⟨rfl, ⟨⟨v.core.minute, v.core.state, v.core.lines, v.core.line, v.core.since, x9, v.core.fuel⟩, v.A, v.c⟩, HB9.out.set_ 5 _, OwnF.apartE HO9.out HB9.out (by decide) (grown_set (grown_refl _ _)), hv8, (HC9.out.kept (grown_set (g := b) (grown_refl _ _)) (fun k hk => by injection hk with hk; omega)).le (by omega), grown_join HG9.out (grown_set (g := b) (grown_refl _ _)) (fun k hk => by injection hk with hk; simp; omega), HZ9.out.far (by simp; omega) _⟩
        · go_wp2_with fail
          (refine (s_amongL w0 g A c bs _ [-1, 10000] _ rfl _ _ _ (by simp) hA (HC6.out.grew' (by (repeat (first | with_reducible exact grew_refl _ | with_reducible assumption | with_reducible refine grew_split ?_ | with_reducible refine grew_mk ?_ | with_reducible refine grew_plus ?_ | with_reducible refine grew_alloc ?_ | with_reducible refine grew_drew ?_ | (with_reducible refine grew_set ?_ (by first | exact Nat.le_refl _ | omega | (simp [go_sem]; done) | (simp [go_sem]; omega))))))) (by omega) (by decide) (by decide)).mono ?_; rintro e w9 ⟨⟨x9, rfl, -⟩, hC9, hG9⟩; have HC9 := hid hC9; have HB9 := hid (HB6.out.grown hG9 (fun e => by injection e with e; omega)); have HO9 := hid (HO6.out.kept hG9 (fun k hk => by injection hk with hk; omega)); have HZ9 := hid (HZ6.out.grown hG9 (fun e => by injection e with e; omega)); have HG9 := hid (HG6.out.trans hG9); clear hC9 hG9 hq0 hq1 hq2 hq3 hq4 hq5 hq6 hf0 hf1 hf2 hf3 hf4 hf5 hf6; (have hq0 := HB9.out.cell 0; have hq1 := HB9.out.cell 1; have hq2 := HB9.out.cell 2; have hq3 := HB9.out.cell 3; have hq4 := HB9.out.cell 4; have hq5 := HB9.out.cell 5; have hq6 := HB9.out.cell 6; simp [go_sem] at hq0 hq1 hq2 hq3 hq4 hq5 hq6); (have hf0 := HB9.out.frozen 0; have hf1 := HB9.out.frozen 1; have hf2 := HB9.out.frozen 2; have hf3 := HB9.out.frozen 3; have hf4 := HB9.out.frozen 4; have hf5 := HB9.out.frozen 5; have hf6 := HB9.out.frozen 6); have hbl9 := HB9.out.lt)
          go_wp2_with fail
          go_meet
          exact ⟨rfl, ⟨⟨v.core.minute, v.core.state, v.core.lines, v.core.line, v.core.since, v.core.cast, x9⟩, v.A, v.c⟩, HB9.out.set_ 6 _, OwnF.apartE HO9.out HB9.out (by decide) (grown_set (grown_refl _ _)), hv8, (HC9.out.kept (grown_set (g := b) (grown_refl _ _)) (fun k hk => by injection hk with hk; omega)).le (by omega), grown_join HG9.out (grown_set (g := b) (grown_refl _ _)) (fun k hk => by injection hk with hk; simp; omega), HZ9.out.far (by simp; omega) _⟩
        · have e0 : (y == 0) = false := by simp; omega
          have e1 : (y == 1) = false := by simp; omega
          have e2 : (y == 2) = false := by simp; omega
          have e3 : (y == 3) = false := by simp; omega
          go_wp2_with fail
          go_meet
          exact ⟨rfl, v, HB6.out, HO6.out, hv8, HC6.out.le (by omega), HG6.out, HZ6.out⟩
      case rest =>
        obtain ⟨rfl, u, hB, hO, hu8, hC, hG, hZ⟩ := hcut
        have HO9 := hid hO
        have HC9 := hid hC
        have HG9 := hid hG
        have HZ9 := hid hZ
        have hbl9 := hB.lt
        have hzl9 := hZ.lt
        clear hq0 hq1 hq2 hq3 hq4 hq5 hq6 hf0 hf1 hf2 hf3 hf4 hf5 hf6
        (have hq0 := hB.cell 0; have hq1 := hB.cell 1; have hq2 := hB.cell 2; have hq3 := hB.cell 3; have hq4 := hB.cell 4; have hq5 := hB.cell 5; have hq6 := hB.cell 6; simp [go_sem] at hq0 hq1 hq2 hq3 hq4 hq5 hq6)
        (have hz0 := hZ.cell 0; have hz1 := hZ.cell 1; have hz2 := hZ.cell 2; have hz3 := hZ.cell 3; have hz4 := hZ.cell 4; have hz5 := hZ.cell 5; have hz6 := hZ.cell 6; simp [go_sem] at hz0 hz1 hz2 hz3 hz4 hz5 hz6)
        (have hy0 := hZ.frozen 0; have hy1 := hZ.frozen 1; have hy2 := hZ.frozen 2; have hy3 := hZ.frozen 3; have hy4 := hZ.frozen 4; have hy5 := hZ.frozen 5; have hy6 := hZ.frozen 6)
        clear hB hO hC hG hZ
        go_wp2_with fail
        refine bodyPost_ret (v := u.val) (by simp [results, Tryz.results59, go_sem, *]) rfl ?_
        exact ⟨⟨u, rfl, hu8, OwnF.apartE HO9.out HZ9.out (by decide) (grown_set (g := w.heap.size) (grown_set (grown_set (grown_set (grown_set (grown_set (grown_set (grown_refl _ _))))))))⟩, (HC9.out.kept (grown_set (g := w.heap.size) (grown_set (grown_set (grown_set (grown_set (grown_set (grown_set (grown_refl _ _)))))))) (fun k hk => by injection hk with hk; omega)).le (by omega), grown_join ((grown_of_grew (w := w) (by (repeat (first | with_reducible exact grew_refl _ | with_reducible assumption | with_reducible refine grew_split ?_ | with_reducible refine grew_mk ?_ | with_reducible refine grew_plus ?_ | with_reducible refine grew_alloc ?_ | with_reducible refine grew_drew ?_ | (with_reducible refine grew_set ?_ (by first | exact Nat.le_refl _ | omega | (simp [go_sem]; done) | (simp [go_sem]; omega)))))) (some g)).trans HG9.out) (grown_set (g := w.heap.size) (grown_set (grown_set (grown_set (grown_set (grown_set (grown_set (grown_refl _ _)))))))) (fun k hk => by injection hk with hk; omega)⟩
end Go.Proofs.YtecghfcgahgfiaaGreatDoor
/- The reference's draws of logs. -/
namespace Go.Proofs.YtecghfcgahgfiaaGreatDoor
open Go.RowKit

attribute [local go_sem ↓] Go.wp_at_zero Go.wp_at_succ
set_option maxHeartbeats 1000000 in
theorem s_spoilt (w0 : World) (g : Nat) (A : Option Addr) (c : Nat) (bs : List Int) (M : Int) (t q : ByteArray) (w : World) (hA : Code0 w0 A bs) (hC : CurU w0 w g A c bs M) (h1 : M ≤ 1099511620000) (ht : t.size ≤ 1000000) (hq0 : 0 < q.size) (hq : q.size ≤ 1000) :
    Calls Tryz.prog 32 #[.pointer (some ⟨g, 0, none⟩), .string t, .string q] w fun e w' => (∃ x : ByteArray, e = .returned (.string x) ∧ x.size ≤ t.size + 1) ∧ CurU w0 w' g A c bs (M + 10) ∧ w.grownBy w' (some g) := by
  have HC := hid hC
  clear hC
  go_enter Tryz.func32, Tryz.ntmps32
  by_cases h0 : t.size = 0
  · have ht0 : t = ByteArray.empty := ByteArray.size_eq_zero_iff.1 h0
    subst ht0
    go_wp2_with fail
    go_ret
    refine ⟨⟨_, rfl, ?_⟩, HC.out.le (by omega), grown_refl _ _⟩
    simp; omega
  · have he : t.toList.isEmpty = false := by rw [noBytes]; exact decide_eq_false (by omega)
    go_wp2_with fail
    refine (s_pick w0 g A c bs M t.size _ hA HC.out (by omega) (by omega)).mono ?_
    rintro e w1 ⟨⟨i', rfl, i0, i1⟩, hC1, hG1⟩
    obtain ⟨i, hi0⟩ : ∃ k : Nat, i' = (k : Int) := ⟨i'.toNat, by omega⟩
    subst hi0
    have hi : i < t.size := by omega
    have HC1 := hid hC1
    have HG1 := hid hG1
    clear hC1 hG1
    go_wp2_with fail
    refine (s_pick w0 g A c bs _ q.size _ hA HC1.out (by omega) (by omega)).mono ?_
    rintro e w2 ⟨⟨k', rfl, k0, k1⟩, hC2, hG2⟩
    obtain ⟨k, hk0⟩ : ∃ k : Nat, k' = (k : Int) := ⟨k'.toNat, by omega⟩
    subst hk0
    have hk : k < q.size := by omega
    have HC2 := hid hC2
    have HG2 := hid (HG1.out.trans hG2)
    clear hC2 hG2
    go_wp2_with fail
    refine (s_pick w0 g A c bs _ 3 _ hA HC2.out (by omega) (by omega)).mono ?_
    rintro e w3 ⟨⟨n, rfl, n0, n1⟩, hC3, hG3⟩
    have HC3 := hid hC3
    have HG3 := hid (HG2.out.trans hG3)
    clear hC3 hG3
    have hw1 : IntKind.i64.wrap ((i : Int) + 1) = (i : Int) + 1 := IntWalk.i64_in _ (by omega)
    have hi1 : (0 : Int) ≤ (i : Int) + 1 := by omega
    have hi2 : (i : Int) + 1 ≤ (t.size : Int) := by omega
    have hs1 : ((t.extract 0 i) ++ (q.extract k q.size).extract 0 1).size ≤ 1000001 := by simp [ByteArray.size_append]; omega
    rcases (show n = 0 ∨ n = 1 ∨ n = 2 by omega) with rfl | rfl | rfl
    · go_wp2_with fail
      go_region
      all_goals
        go_wp2_with fail
        go_ret
        refine ⟨⟨_, rfl, ?_⟩, (HC3.out.grew' (by (repeat (first | with_reducible exact grew_refl _ | with_reducible assumption | with_reducible refine grew_split ?_ | with_reducible refine grew_mk ?_ | with_reducible refine grew_plus ?_ | with_reducible refine grew_alloc ?_ | with_reducible refine grew_drew ?_ | (with_reducible refine grew_set ?_ (by first | exact Nat.le_refl _ | omega | (simp [go_sem]; done) | (simp [go_sem]; omega))))))).le (by omega), HG3.out.trans (grown_of_grew (by (repeat (first | with_reducible exact grew_refl _ | with_reducible assumption | with_reducible refine grew_split ?_ | with_reducible refine grew_mk ?_ | with_reducible refine grew_plus ?_ | with_reducible refine grew_alloc ?_ | with_reducible refine grew_drew ?_ | (with_reducible refine grew_set ?_ (by first | exact Nat.le_refl _ | omega | (simp [go_sem]; done) | (simp [go_sem]; omega)))))) _)⟩
        simp [ByteArray.size_append]; omega
    · go_wp2_with fail
      go_region
      all_goals
        go_wp2_with fail
        go_ret
        refine ⟨⟨_, rfl, ?_⟩, (HC3.out.grew' (by (repeat (first | with_reducible exact grew_refl _ | with_reducible assumption | with_reducible refine grew_split ?_ | with_reducible refine grew_mk ?_ | with_reducible refine grew_plus ?_ | with_reducible refine grew_alloc ?_ | with_reducible refine grew_drew ?_ | (with_reducible refine grew_set ?_ (by first | exact Nat.le_refl _ | omega | (simp [go_sem]; done) | (simp [go_sem]; omega))))))).le (by omega), HG3.out.trans (grown_of_grew (by (repeat (first | with_reducible exact grew_refl _ | with_reducible assumption | with_reducible refine grew_split ?_ | with_reducible refine grew_mk ?_ | with_reducible refine grew_plus ?_ | with_reducible refine grew_alloc ?_ | with_reducible refine grew_drew ?_ | (with_reducible refine grew_set ?_ (by first | exact Nat.le_refl _ | omega | (simp [go_sem]; done) | (simp [go_sem]; omega)))))) _)⟩
        simp [ByteArray.size_append]; omega
    · go_wp2_with fail
      go_region
      all_goals
        go_wp2_with fail
        go_ret
        refine ⟨⟨_, rfl, ?_⟩, (HC3.out.grew' (by (repeat (first | with_reducible exact grew_refl _ | with_reducible assumption | with_reducible refine grew_split ?_ | with_reducible refine grew_mk ?_ | with_reducible refine grew_plus ?_ | with_reducible refine grew_alloc ?_ | with_reducible refine grew_drew ?_ | (with_reducible refine grew_set ?_ (by first | exact Nat.le_refl _ | omega | (simp [go_sem]; done) | (simp [go_sem]; omega))))))).le (by omega), HG3.out.trans (grown_of_grew (by (repeat (first | with_reducible exact grew_refl _ | with_reducible assumption | with_reducible refine grew_split ?_ | with_reducible refine grew_mk ?_ | with_reducible refine grew_plus ?_ | with_reducible refine grew_alloc ?_ | with_reducible refine grew_drew ?_ | (with_reducible refine grew_set ?_ (by first | exact Nat.le_refl _ | omega | (simp [go_sem]; done) | (simp [go_sem]; omega)))))) _)⟩
        simp [ByteArray.size_append]; omega
end Go.Proofs.YtecghfcgahgfiaaGreatDoor
