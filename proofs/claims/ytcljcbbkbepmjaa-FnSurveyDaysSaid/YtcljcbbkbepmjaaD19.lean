/- Running steps, in the reference. -/
import Derived.Test.YtcljcbbkbepmjaaD17
namespace Go.Proofs.Ytcljcbbkbepmjaa
open Go.RowKit

attribute [local go_sem ↓] Go.wp_at_zero Go.wp_at_succ
theorem exit_opaq {K : Act → World → Prop} {Q : Exit → Act → World → Prop} {a : Act} {W : World} (F : World → Prop) (hF : F W) (h : ∀ wr, F wr → Exit.then K Q .normal a wr) : Exit.then K Q .normal a W := h W hF
set_option maxHeartbeats 4000000 in
set_option maxRecDepth 10000 in
theorem s_RunDay (v : DayV) (l : List StepR) (A : Option Addr) (c : Nat) (w : World) (hv : v.At w) (hA : Sl w 2 StepR.row A l) (hl : l.length ≤ maxLen) :
    Calls Try.prog 16 #[v.val, .slice A l.length c] w fun e w' => RunPost w.heap.size (runF v.core l) e w' ∧ ∃ g, w' = plus w g := by
  have HV := hid hv
  have HA := hid hA
  unfold maxLen at hl
  clear hv hA
  cases hok : v.core.ok
  · have HK := hid hok
    rw [show runF v.core l = (noDay, 0, false) by simp [runF, hok]]
    clear hok
    go_enter Try.func16, Try.ntmps16
    go_wp2_with fail
    refine (s_l25Good v _ HK.out _ (HV.out.grew (by (repeat (first | with_reducible exact grew_refl _ | with_reducible assumption | with_reducible refine grew_split ?_ | with_reducible refine grew_mk ?_ | with_reducible refine grew_plus ?_ | with_reducible refine grew_alloc ?_ | with_reducible refine grew_drew ?_ | (with_reducible refine grew_set ?_ (by first | exact Nat.le_refl _ | omega | (simp [go_sem]; done) | (simp [go_sem]; omega)))))))).mono ?_
    (rintro e w' ⟨rfl, gx, rfl⟩)
    go_wp2_with fail
    refine bodyPost_ret (v := .tuple #[DayV.val ⟨noDay, none, 0⟩, .int .i64 0, .bool false]) (by simp [results, Try.results16, go_sem, noDay]) rfl ?_
    exact ⟨RunPost.no, by (repeat (first | with_reducible exact grew_refl _ | with_reducible assumption | with_reducible refine grew_split ?_ | with_reducible refine grew_mk ?_ | with_reducible refine grew_plus ?_ | with_reducible refine grew_alloc ?_ | with_reducible refine grew_drew ?_ | (with_reducible refine grew_set ?_ (by first | exact Nat.le_refl _ | omega | (simp [go_sem]; done) | (simp [go_sem]; omega)))))⟩
  have HK := hid hok
  by_cases hl40 : 40 < l.length
  · rw [show runF v.core l = (noDay, 0, false) by simp [runF]; omega]
    clear hok
    go_enter Try.func16, Try.ntmps16
    go_wp2_with fail
    refine (s_l25Good v _ HK.out _ (HV.out.grew (by (repeat (first | with_reducible exact grew_refl _ | with_reducible assumption | with_reducible refine grew_split ?_ | with_reducible refine grew_mk ?_ | with_reducible refine grew_plus ?_ | with_reducible refine grew_alloc ?_ | with_reducible refine grew_drew ?_ | (with_reducible refine grew_set ?_ (by first | exact Nat.le_refl _ | omega | (simp [go_sem]; done) | (simp [go_sem]; omega)))))))).mono ?_
    (rintro e w' ⟨rfl, gx, rfl⟩)
    go_wp2_with fail
    refine bodyPost_ret (v := .tuple #[DayV.val ⟨noDay, none, 0⟩, .int .i64 0, .bool false]) (by simp [results, Try.results16, go_sem, noDay]) rfl ?_
    exact ⟨RunPost.no, by (repeat (first | with_reducible exact grew_refl _ | with_reducible assumption | with_reducible refine grew_split ?_ | with_reducible refine grew_mk ?_ | with_reducible refine grew_plus ?_ | with_reducible refine grew_alloc ?_ | with_reducible refine grew_drew ?_ | (with_reducible refine grew_set ?_ (by first | exact Nat.le_refl _ | omega | (simp [go_sem]; done) | (simp [go_sem]; omega)))))⟩
  have hl40' : l.length ≤ 40 := by omega
  obtain ⟨r, hr⟩ : ∃ r, runTo v.core l l.length = r := ⟨_, rfl⟩
  rw [show runF v.core l = (r.1, r.2, true) by simp [runF, hok, hl40', hr]]
  have HR := hid hr
  obtain ⟨_, _, _, _, b5, b6, _⟩ := DayC.bounds hok
  clear hok hr hl40
  go_enter Try.func16, Try.ntmps16
  go_wp2_with fail
  refine (s_l25Good v _ HK.out _ (HV.out.grew (by (repeat (first | with_reducible exact grew_refl _ | with_reducible assumption | with_reducible refine grew_split ?_ | with_reducible refine grew_mk ?_ | with_reducible refine grew_plus ?_ | with_reducible refine grew_alloc ?_ | with_reducible refine grew_drew ?_ | (with_reducible refine grew_set ?_ (by first | exact Nat.le_refl _ | omega | (simp [go_sem]; done) | (simp [go_sem]; omega)))))))).mono ?_
  (rintro e w' ⟨rfl, gx, rfl⟩)
  go_wp2_with fail
  refine (s_l25Own v _ (HV.out.grew (by (repeat (first | with_reducible exact grew_refl _ | with_reducible assumption | with_reducible refine grew_split ?_ | with_reducible refine grew_mk ?_ | with_reducible refine grew_plus ?_ | with_reducible refine grew_alloc ?_ | with_reducible refine grew_drew ?_ | (with_reducible refine grew_set ?_ (by first | exact Nat.le_refl _ | omega | (simp [go_sem]; done) | (simp [go_sem]; omega))))))) (by omega) b6).mono ?_
  rintro e w' ⟨⟨A1, d1, rfl, hO1⟩, gx1, rfl⟩
  (try rw [plus_plus] at hO1)
  have HO1 := hid hO1
  clear hO1
  go_wp2_with fail
  generalize hb : w.heap.size + 1 + 1 + (gx.add gx1).objs.size = b
  refine wp_opaq (fun wr => Blk wr b 26 #[.int .i64 (v.core).minute, .int .i64 (v.core).state, .slice A1 (v.core).lines.length d1, .int .i64 (v.core).line, .int .i64 (v.core).since, .int .i64 (v.core).cast, .int .i64 (v.core).fuel] ∧ OwnF (w.heap.size + 2) 59 2 LineR.row wr A1 v.core.lines ∧ w.heap.size + 2 ≤ b ∧ ∃ g, wr = plus ((w.alloc (.cells #[.int .i64 (v.core).minute, .int .i64 (v.core).state, .slice v.A (v.core).lines.length v.c, .int .i64 (v.core).line, .int .i64 (v.core).since, .int .i64 (v.core).cast, .int .i64 (v.core).fuel] 26)).alloc (.cells #[.int .i64 0, .int .i64 0, .slice none 0 0, .int .i64 0, .int .i64 0, .int .i64 0, .int .i64 0] 26)) g) ⟨blk_new (by subst hb; simp [go_sem]), (HO1.out.grew (grew_alloc (grew_refl _))).less (by simp [go_sem] <;> omega), by omega, by (repeat (first | with_reducible exact grew_refl _ | with_reducible assumption | with_reducible refine grew_split ?_ | with_reducible refine grew_mk ?_ | with_reducible refine grew_plus ?_ | with_reducible refine grew_alloc ?_ | with_reducible refine grew_drew ?_ | (with_reducible refine grew_set ?_ (by first | exact Nat.le_refl _ | omega | (simp [go_sem]; done) | (simp [go_sem]; omega)))))⟩ ?_
  clear hb HO1
  rintro wq ⟨hB, hO, hb, hg⟩
  have HN := hid hb
  have HB := hid hB
  have HO := hid hO
  have HG := hid hg
  clear hB hO hg hb
  go_loopw [8, 9] (fun n i wr => ∃ (k : Nat) (A' : Option Addr) (c' : Nat), k ≤ l.length ∧ i = .int .i64 k ∧ n = .int .i64 (runTo v.core l k).2 ∧ Blk wr b 26 #[.int .i64 ((runTo v.core l k).1).minute, .int .i64 ((runTo v.core l k).1).state, .slice A' ((runTo v.core l k).1).lines.length c', .int .i64 ((runTo v.core l k).1).line, .int .i64 ((runTo v.core l k).1).since, .int .i64 ((runTo v.core l k).1).cast, .int .i64 ((runTo v.core l k).1).fuel] ∧ OwnF (w.heap.size + 2) 59 2 LineR.row wr A' (runTo v.core l k).1.lines ∧ ∃ g, wr = plus ((w.alloc (.cells #[.int .i64 (v.core).minute, .int .i64 (v.core).state, .slice v.A (v.core).lines.length v.c, .int .i64 (v.core).line, .int .i64 (v.core).since, .int .i64 (v.core).cast, .int .i64 (v.core).fuel] 26)).alloc (.cells #[.int .i64 0, .int .i64 0, .slice none 0 0, .int .i64 0, .int .i64 0, .int .i64 0, .int .i64 0] 26)) g) (fun _ i _ => l.length - (intOf i).toNat)
  case atStart => exact ⟨0, A1, d1, Nat.zero_le _, rfl, rfl, HB.out, HO.out, HG.out⟩
  case round =>
    obtain ⟨k, A', c', hk, rfl, rfl, hB2, hO2, hg2⟩ := hrel
    obtain ⟨q1, q2, q3⟩ := runTo_ok HK.out l k hk
    have hg3 : ∃ g, wr = plus w g := by obtain ⟨g, h⟩ := hg2; rw [h]; (repeat (first | with_reducible exact grew_refl _ | with_reducible assumption | with_reducible refine grew_split ?_ | with_reducible refine grew_mk ?_ | with_reducible refine grew_plus ?_ | with_reducible refine grew_alloc ?_ | with_reducible refine grew_drew ?_ | (with_reducible refine grew_set ?_ (by first | exact Nat.le_refl _ | omega | (simp [go_sem]; done) | (simp [go_sem]; omega)))))
    have HG3 := hid hg3
    have HA2 := hid (HA.out.grew hg3)
    generalize hD : runTo v.core l k = D at q1 q2 q3 hB2 hO2 ⊢
    have HD := hid hD
    have HQ := hid q1
    have HB2 := hid hB2
    have HO2 := hid hO2
    have HG2 := hid hg2
    have hbl := hB2.lt
    have hD8 := (DayC.bounds q1).2.2.2.2.2.1
    have HAT := hid (DayV.At.mk (v := ⟨D.1, A', c'⟩) hO2.sl (Nat.le_trans hD8 (by decide)))
    (have hq0 := hB2.cell 0; have hq1 := hB2.cell 1; have hq2 := hB2.cell 2; have hq3 := hB2.cell 3; have hq4 := hB2.cell 4; have hq5 := hB2.cell 5; have hq6 := hB2.cell 6; simp [go_sem] at hq0 hq1 hq2 hq3 hq4 hq5 hq6)
    (have hf0 := hB2.frozen 0; have hf1 := hB2.frozen 1; have hf2 := hB2.frozen 2; have hf3 := hB2.frozen 3; have hf4 := hB2.frozen 4; have hf5 := hB2.frozen 5; have hf6 := hB2.frozen 6)
    clear hB2 hO2 hg2 q1 hD hg3
    by_cases hlt : k < l.length
    · obtain ⟨b0, off, rfl, hb0, hc⟩ := HA2.out.at_ hlt
      obtain ⟨hc0, hc1⟩ := scells hc hlt
      clear hc
      have hi0 : (0 : Int) ≤ (k : Int) := by omega
      have hi1 : (k : Int) < (l.length : Int) := by omega
      have KEEP : Hid (∀ W : World, (∃ g, W = plus wr g) → ((fun w' => w'.cell? ⟨b, 0, none⟩ = some (.int .i64 D.1.minute) ∧ w'.cell? ⟨b, 1, none⟩ = some (.int .i64 D.1.state) ∧ w'.cell? ⟨b, 2, none⟩ = some (.slice A' D.1.lines.length c') ∧ w'.cell? ⟨b, 3, none⟩ = some (.int .i64 D.1.line) ∧ w'.cell? ⟨b, 4, none⟩ = some (.int .i64 D.1.since) ∧ w'.cell? ⟨b, 5, none⟩ = some (.int .i64 D.1.cast) ∧ w'.cell? ⟨b, 6, none⟩ = some (.int .i64 D.1.fuel) ∧ w'.cell? ⟨b0, off + k * 2, none⟩ = some (.int .i64 l[k].kind) ∧ w'.cell? ⟨b0, off + k * 2 + 1, none⟩ = some (.int .i64 l[k].value))) W) := hid (by
        rintro W ⟨g, rfl⟩
        simp only [cell?_plus _ _ hbl, cell?_plus _ _ hb0, hq0, hq1, hq2, hq3, hq4, hq5, hq6, hc0, hc1, and_self])
      cases hsb : stepB D.1 l[k].kind l[k].value
      · have HSB := hid hsb
        clear hsb
        go_wp2_with fail
        go_region_held3 (fun w' => w'.cell? ⟨b, 0, none⟩ = some (.int .i64 D.1.minute) ∧ w'.cell? ⟨b, 1, none⟩ = some (.int .i64 D.1.state) ∧ w'.cell? ⟨b, 2, none⟩ = some (.slice A' D.1.lines.length c') ∧ w'.cell? ⟨b, 3, none⟩ = some (.int .i64 D.1.line) ∧ w'.cell? ⟨b, 4, none⟩ = some (.int .i64 D.1.since) ∧ w'.cell? ⟨b, 5, none⟩ = some (.int .i64 D.1.cast) ∧ w'.cell? ⟨b, 6, none⟩ = some (.int .i64 D.1.fuel) ∧ w'.cell? ⟨b0, off + k * 2, none⟩ = some (.int .i64 l[k].kind) ∧ w'.cell? ⟨b0, off + k * 2 + 1, none⟩ = some (.int .i64 l[k].value)) (exact KEEP.out _ (by (repeat (first | with_reducible exact grew_refl _ | with_reducible assumption | with_reducible refine grew_split ?_ | with_reducible refine grew_mk ?_ | with_reducible refine grew_plus ?_ | with_reducible refine grew_alloc ?_ | with_reducible refine grew_drew ?_ | (with_reducible refine grew_set ?_ (by first | exact Nat.le_refl _ | omega | (simp [go_sem]; done) | (simp [go_sem]; omega))))))) ((go_at_call 24; refine (s_l25Step ⟨D.1, A', c'⟩ l[k].kind l[k].value _ HSB.out _ hD8).mono ?_; (rintro e w' ⟨rfl, gx, rfl⟩)))
        go_wp2_with fail
        go_roundw
        case rel =>
          refine ⟨k + 1, A', c', by omega, by go_num, ?_⟩
          rw [runTo_no hlt (by rw [HD.out, stepF_notB HSB.out]), HD.out]
          exact ⟨rfl, blk_grew HB2.out (by (repeat (first | with_reducible exact grew_refl _ | with_reducible assumption | with_reducible refine grew_split ?_ | with_reducible refine grew_mk ?_ | with_reducible refine grew_plus ?_ | with_reducible refine grew_alloc ?_ | with_reducible refine grew_drew ?_ | (with_reducible refine grew_set ?_ (by first | exact Nat.le_refl _ | omega | (simp [go_sem]; done) | (simp [go_sem]; omega)))))), HO2.out.grew (by (repeat (first | with_reducible exact grew_refl _ | with_reducible assumption | with_reducible refine grew_split ?_ | with_reducible refine grew_mk ?_ | with_reducible refine grew_plus ?_ | with_reducible refine grew_alloc ?_ | with_reducible refine grew_drew ?_ | (with_reducible refine grew_set ?_ (by first | exact Nat.le_refl _ | omega | (simp [go_sem]; done) | (simp [go_sem]; omega)))))), by obtain ⟨g, h⟩ := HG2.out; rw [h]; (repeat (first | with_reducible exact grew_refl _ | with_reducible assumption | with_reducible refine grew_split ?_ | with_reducible refine grew_mk ?_ | with_reducible refine grew_plus ?_ | with_reducible refine grew_alloc ?_ | with_reducible refine grew_drew ?_ | (with_reducible refine grew_set ?_ (by first | exact Nat.le_refl _ | omega | (simp [go_sem]; done) | (simp [go_sem]; omega)))))⟩
        case measure => simp [intOf]; omega
      · have HSB := hid hsb
        clear hsb
        cases h2 : (stepF D.1 l[k].kind l[k].value).2
        · have HP := hid (stepF_no h2)
          have H2 := hid h2
          clear h2
          go_wp2_with fail
          go_region_held3 (fun w' => w'.cell? ⟨b, 0, none⟩ = some (.int .i64 D.1.minute) ∧ w'.cell? ⟨b, 1, none⟩ = some (.int .i64 D.1.state) ∧ w'.cell? ⟨b, 2, none⟩ = some (.slice A' D.1.lines.length c') ∧ w'.cell? ⟨b, 3, none⟩ = some (.int .i64 D.1.line) ∧ w'.cell? ⟨b, 4, none⟩ = some (.int .i64 D.1.since) ∧ w'.cell? ⟨b, 5, none⟩ = some (.int .i64 D.1.cast) ∧ w'.cell? ⟨b, 6, none⟩ = some (.int .i64 D.1.fuel) ∧ w'.cell? ⟨b0, off + k * 2, none⟩ = some (.int .i64 l[k].kind) ∧ w'.cell? ⟨b0, off + k * 2 + 1, none⟩ = some (.int .i64 l[k].value)) (exact KEEP.out _ (by (repeat (first | with_reducible exact grew_refl _ | with_reducible assumption | with_reducible refine grew_split ?_ | with_reducible refine grew_mk ?_ | with_reducible refine grew_plus ?_ | with_reducible refine grew_alloc ?_ | with_reducible refine grew_drew ?_ | (with_reducible refine grew_set ?_ (by first | exact Nat.le_refl _ | omega | (simp [go_sem]; done) | (simp [go_sem]; omega))))))) ((go_at_call 24; refine (s_l25Step ⟨D.1, A', c'⟩ l[k].kind l[k].value _ HSB.out _ hD8).mono ?_; (rintro e w' ⟨rfl, gx, rfl⟩)))
          go_wp2_with fail
          go_region_held3 (fun w' => w'.cell? ⟨b, 0, none⟩ = some (.int .i64 D.1.minute) ∧ w'.cell? ⟨b, 1, none⟩ = some (.int .i64 D.1.state) ∧ w'.cell? ⟨b, 2, none⟩ = some (.slice A' D.1.lines.length c') ∧ w'.cell? ⟨b, 3, none⟩ = some (.int .i64 D.1.line) ∧ w'.cell? ⟨b, 4, none⟩ = some (.int .i64 D.1.since) ∧ w'.cell? ⟨b, 5, none⟩ = some (.int .i64 D.1.cast) ∧ w'.cell? ⟨b, 6, none⟩ = some (.int .i64 D.1.fuel) ∧ w'.cell? ⟨b0, off + k * 2, none⟩ = some (.int .i64 l[k].kind) ∧ w'.cell? ⟨b0, off + k * 2 + 1, none⟩ = some (.int .i64 l[k].value)) (exact KEEP.out _ (by (repeat (first | with_reducible exact grew_refl _ | with_reducible assumption | with_reducible refine grew_split ?_ | with_reducible refine grew_mk ?_ | with_reducible refine grew_plus ?_ | with_reducible refine grew_alloc ?_ | with_reducible refine grew_drew ?_ | (with_reducible refine grew_set ?_ (by first | exact Nat.le_refl _ | omega | (simp [go_sem]; done) | (simp [go_sem]; omega))))))) ((go_at_call 25; refine (s_l25Make ⟨D.1, A', c'⟩ l[k].kind l[k].value _ HP.out _ HQ.out HSB.out (HAT.out.grew (by (repeat (first | with_reducible exact grew_refl _ | with_reducible assumption | with_reducible refine grew_split ?_ | with_reducible refine grew_mk ?_ | with_reducible refine grew_plus ?_ | with_reducible refine grew_alloc ?_ | with_reducible refine grew_drew ?_ | (with_reducible refine grew_set ?_ (by first | exact Nat.le_refl _ | omega | (simp [go_sem]; done) | (simp [go_sem]; omega)))))))).mono ?_; rintro e w' ⟨⟨d9, A9, d2, rfl, -⟩, gx2, rfl⟩))
          all_goals
            go_wp2_with fail
            go_roundw
            case rel =>
              refine ⟨k + 1, A', c', by omega, by go_num, ?_⟩
              rw [runTo_no hlt (by rw [HD.out]; exact H2.out), HD.out]
              exact ⟨rfl, blk_grew HB2.out (by (repeat (first | with_reducible exact grew_refl _ | with_reducible assumption | with_reducible refine grew_split ?_ | with_reducible refine grew_mk ?_ | with_reducible refine grew_plus ?_ | with_reducible refine grew_alloc ?_ | with_reducible refine grew_drew ?_ | (with_reducible refine grew_set ?_ (by first | exact Nat.le_refl _ | omega | (simp [go_sem]; done) | (simp [go_sem]; omega)))))), HO2.out.grew (by (repeat (first | with_reducible exact grew_refl _ | with_reducible assumption | with_reducible refine grew_split ?_ | with_reducible refine grew_mk ?_ | with_reducible refine grew_plus ?_ | with_reducible refine grew_alloc ?_ | with_reducible refine grew_drew ?_ | (with_reducible refine grew_set ?_ (by first | exact Nat.le_refl _ | omega | (simp [go_sem]; done) | (simp [go_sem]; omega)))))), by have hg := HG2.out; (repeat (first | with_reducible exact grew_refl _ | with_reducible assumption | with_reducible refine grew_split ?_ | with_reducible refine grew_mk ?_ | with_reducible refine grew_plus ?_ | with_reducible refine grew_alloc ?_ | with_reducible refine grew_drew ?_ | (with_reducible refine grew_set ?_ (by first | exact Nat.le_refl _ | omega | (simp [go_sem]; done) | (simp [go_sem]; omega)))))⟩
            case measure => simp [intOf]; omega
        · obtain ⟨⟨d, q⟩, hp⟩ : ∃ p, stepF D.1 l[k].kind l[k].value = p := ⟨_, rfl⟩
          rw [hp] at h2
          simp only at h2
          subst h2
          have HP := hid hp
          clear hp
          go_wp2_with fail
          go_region_held3 (fun w' => w'.cell? ⟨b, 0, none⟩ = some (.int .i64 D.1.minute) ∧ w'.cell? ⟨b, 1, none⟩ = some (.int .i64 D.1.state) ∧ w'.cell? ⟨b, 2, none⟩ = some (.slice A' D.1.lines.length c') ∧ w'.cell? ⟨b, 3, none⟩ = some (.int .i64 D.1.line) ∧ w'.cell? ⟨b, 4, none⟩ = some (.int .i64 D.1.since) ∧ w'.cell? ⟨b, 5, none⟩ = some (.int .i64 D.1.cast) ∧ w'.cell? ⟨b, 6, none⟩ = some (.int .i64 D.1.fuel) ∧ w'.cell? ⟨b0, off + k * 2, none⟩ = some (.int .i64 l[k].kind) ∧ w'.cell? ⟨b0, off + k * 2 + 1, none⟩ = some (.int .i64 l[k].value)) (exact KEEP.out _ (by (repeat (first | with_reducible exact grew_refl _ | with_reducible assumption | with_reducible refine grew_split ?_ | with_reducible refine grew_mk ?_ | with_reducible refine grew_plus ?_ | with_reducible refine grew_alloc ?_ | with_reducible refine grew_drew ?_ | (with_reducible refine grew_set ?_ (by first | exact Nat.le_refl _ | omega | (simp [go_sem]; done) | (simp [go_sem]; omega))))))) ((go_at_call 24; refine (s_l25Step ⟨D.1, A', c'⟩ l[k].kind l[k].value _ HSB.out _ hD8).mono ?_; (rintro e w' ⟨rfl, gx, rfl⟩)))
          go_wp2_with fail
          go_region_held3 (fun w' => w'.cell? ⟨b, 0, none⟩ = some (.int .i64 D.1.minute) ∧ w'.cell? ⟨b, 1, none⟩ = some (.int .i64 D.1.state) ∧ w'.cell? ⟨b, 2, none⟩ = some (.slice A' D.1.lines.length c') ∧ w'.cell? ⟨b, 3, none⟩ = some (.int .i64 D.1.line) ∧ w'.cell? ⟨b, 4, none⟩ = some (.int .i64 D.1.since) ∧ w'.cell? ⟨b, 5, none⟩ = some (.int .i64 D.1.cast) ∧ w'.cell? ⟨b, 6, none⟩ = some (.int .i64 D.1.fuel) ∧ w'.cell? ⟨b0, off + k * 2, none⟩ = some (.int .i64 l[k].kind) ∧ w'.cell? ⟨b0, off + k * 2 + 1, none⟩ = some (.int .i64 l[k].value)) (exact KEEP.out _ (by (repeat (first | with_reducible exact grew_refl _ | with_reducible assumption | with_reducible refine grew_split ?_ | with_reducible refine grew_mk ?_ | with_reducible refine grew_plus ?_ | with_reducible refine grew_alloc ?_ | with_reducible refine grew_drew ?_ | (with_reducible refine grew_set ?_ (by first | exact Nat.le_refl _ | omega | (simp [go_sem]; done) | (simp [go_sem]; omega))))))) ((go_at_call 25; refine (s_l25Make ⟨D.1, A', c'⟩ l[k].kind l[k].value _ HP.out _ HQ.out HSB.out (HAT.out.grew (by (repeat (first | with_reducible exact grew_refl _ | with_reducible assumption | with_reducible refine grew_split ?_ | with_reducible refine grew_mk ?_ | with_reducible refine grew_plus ?_ | with_reducible refine grew_alloc ?_ | with_reducible refine grew_drew ?_ | (with_reducible refine grew_set ?_ (by first | exact Nat.le_refl _ | omega | (simp [go_sem]; done) | (simp [go_sem]; omega)))))))).mono ?_; rintro e w' ⟨⟨d9, A2, d2, rfl, hm⟩, gx2, rfl⟩; (try rw [plus_plus] at hm); have HM := hid hm; clear hm))
          all_goals
            obtain ⟨rfl, hO3⟩ := HM.out (by trivial)
            have HO3 := hid hO3
            clear hO3 HM
            refine exit_opaq (fun W => Blk W b 26 #[.int .i64 (D.1).minute, .int .i64 (D.1).state, .slice A' (D.1).lines.length c', .int .i64 (D.1).line, .int .i64 (D.1).since, .int .i64 (D.1).cast, .int .i64 (D.1).fuel] ∧ Blk W _ 26 #[.int .i64 (d9).minute, .int .i64 (d9).state, .slice A2 (d9).lines.length d2, .int .i64 (d9).line, .int .i64 (d9).since, .int .i64 (d9).cast, .int .i64 (d9).fuel] ∧ OwnF wr.heap.size 59 2 LineR.row W A2 d9.lines ∧ ∃ g, W = plus wr g) ⟨blk_grew HB2.out (by (repeat (first | with_reducible exact grew_refl _ | with_reducible assumption | with_reducible refine grew_split ?_ | with_reducible refine grew_mk ?_ | with_reducible refine grew_plus ?_ | with_reducible refine grew_alloc ?_ | with_reducible refine grew_drew ?_ | (with_reducible refine grew_set ?_ (by first | exact Nat.le_refl _ | omega | (simp [go_sem]; done) | (simp [go_sem]; omega)))))), (by first | exact blk_new rfl | exact blk_grew (blk_new rfl) (grew_plus (grew_refl _))), (by first | exact (OwnF.grew HO3.out (grew_alloc (grew_refl _))).less (below_of_grew (by (repeat (first | with_reducible exact grew_refl _ | with_reducible assumption | with_reducible refine grew_split ?_ | with_reducible refine grew_mk ?_ | with_reducible refine grew_plus ?_ | with_reducible refine grew_alloc ?_ | with_reducible refine grew_drew ?_ | (with_reducible refine grew_set ?_ (by first | exact Nat.le_refl _ | omega | (simp [go_sem]; done) | (simp [go_sem]; omega))))))).size | exact (OwnF.base HO3.out (Nat.le_refl _) (by simp [go_sem])).less (below_of_grew (by (repeat (first | with_reducible exact grew_refl _ | with_reducible assumption | with_reducible refine grew_split ?_ | with_reducible refine grew_mk ?_ | with_reducible refine grew_plus ?_ | with_reducible refine grew_alloc ?_ | with_reducible refine grew_drew ?_ | (with_reducible refine grew_set ?_ (by first | exact Nat.le_refl _ | omega | (simp [go_sem]; done) | (simp [go_sem]; omega))))))).size), by (repeat (first | with_reducible exact grew_refl _ | with_reducible assumption | with_reducible refine grew_split ?_ | with_reducible refine grew_mk ?_ | with_reducible refine grew_plus ?_ | with_reducible refine grew_alloc ?_ | with_reducible refine grew_drew ?_ | (with_reducible refine grew_set ?_ (by first | exact Nat.le_refl _ | omega | (simp [go_sem]; done) | (simp [go_sem]; omega)))))⟩ ?_
            rintro w2 ⟨hB4, hN4, hO4, hg4⟩
            have hbl4 := hB4.lt
            clear hq0 hq1 hq2 hq3 hq4 hq5 hq6 hf0 hf1 hf2 hf3 hf4 hf5 hf6 KEEP hc0 hc1
            (have hq0 := hB4.cell 0; have hq1 := hB4.cell 1; have hq2 := hB4.cell 2; have hq3 := hB4.cell 3; have hq4 := hB4.cell 4; have hq5 := hB4.cell 5; have hq6 := hB4.cell 6; simp [go_sem] at hq0 hq1 hq2 hq3 hq4 hq5 hq6)
            (have hf0 := hB4.frozen 0; have hf1 := hB4.frozen 1; have hf2 := hB4.frozen 2; have hf3 := hB4.frozen 3; have hf4 := hB4.frozen 4; have hf5 := hB4.frozen 5; have hf6 := hB4.frozen 6)
            (have hr0 := hN4.cell 0; have hr1 := hN4.cell 1; have hr2 := hN4.cell 2; have hr3 := hN4.cell 3; have hr4 := hN4.cell 4; have hr5 := hN4.cell 5; have hr6 := hN4.cell 6; simp [go_sem] at hr0 hr1 hr2 hr3 hr4 hr5 hr6)
            have HB4 := hid hB4
            have HO4 := hid hO4
            have HG4 := hid hg4
            clear hB4 hN4 hO4 hg4
            go_wp2_with fail
            go_roundw
            case rel =>
              refine ⟨k + 1, A2, d2, by omega, by go_num, ?_⟩
              rw [runTo_yes hlt (by rw [HD.out]; exact HP.out), HD.out]
              have h7 := ((((((HB4.out.set_ 0 (.int .i64 d9.minute)).set_ 1 (.int .i64 d9.state)).set_ 2 (.slice A2 d9.lines.length d2)).set_ 3 (.int .i64 d9.line)).set_ 4 (.int .i64 d9.since)).set_ 5 (.int .i64 d9.cast)).set_ 6 (.int .i64 d9.fuel)
              simp only [List.setIfInBounds_toArray, List.set_cons_zero, List.set_cons_succ] at h7
              have hn := HN.out
              have hg : ∃ g, w2 = plus ((w.alloc (.cells #[.int .i64 (v.core).minute, .int .i64 (v.core).state, .slice v.A (v.core).lines.length v.c, .int .i64 (v.core).line, .int .i64 (v.core).since, .int .i64 (v.core).cast, .int .i64 (v.core).fuel] 26)).alloc (.cells #[.int .i64 0, .int .i64 0, .slice none 0 0, .int .i64 0, .int .i64 0, .int .i64 0, .int .i64 0] 26)) g := by obtain ⟨_, h⟩ := HG2.out; obtain ⟨_, h'⟩ := HG4.out; rw [h', h]; exact grew_plus (grew_plus (grew_refl _))
              exact ⟨rfl, blk_grew h7 (by (repeat (first | with_reducible exact grew_refl _ | with_reducible assumption | with_reducible refine grew_split ?_ | with_reducible refine grew_mk ?_ | with_reducible refine grew_plus ?_ | with_reducible refine grew_alloc ?_ | with_reducible refine grew_drew ?_ | (with_reducible refine grew_set ?_ (by first | exact Nat.le_refl _ | omega | (simp [go_sem]; done) | (simp [go_sem]; omega)))))), ((OwnF.set7 HO4.out hbl).less (by omega)).grew (by (repeat (first | with_reducible exact grew_refl _ | with_reducible assumption | with_reducible refine grew_split ?_ | with_reducible refine grew_mk ?_ | with_reducible refine grew_plus ?_ | with_reducible refine grew_alloc ?_ | with_reducible refine grew_drew ?_ | (with_reducible refine grew_set ?_ (by first | exact Nat.le_refl _ | omega | (simp [go_sem]; done) | (simp [go_sem]; omega)))))), by (repeat (first | with_reducible exact grew_refl _ | with_reducible assumption | with_reducible refine grew_split ?_ | with_reducible refine grew_mk ?_ | with_reducible refine grew_plus ?_ | with_reducible refine grew_alloc ?_ | with_reducible refine grew_drew ?_ | (with_reducible refine grew_set ?_ (by first | exact Nat.le_refl _ | omega | (simp [go_sem]; done) | (simp [go_sem]; omega)))))⟩
            case measure => simp [intOf]; omega
    · obtain rfl : k = l.length := by omega
      clear HA2
      have hZ := blk_grew (blk_new (w := w.alloc (.cells #[.int .i64 (v.core).minute, .int .i64 (v.core).state, .slice v.A (v.core).lines.length v.c, .int .i64 (v.core).line, .int .i64 (v.core).since, .int .i64 (v.core).cast, .int .i64 (v.core).fuel] 26)) (b := w.heap.size + 1) (t := 26) (cs := #[.int .i64 0, .int .i64 0, .slice none 0 0, .int .i64 0, .int .i64 0, .int .i64 0, .int .i64 0]) (by simp)) HG2.out
      have hzl := hZ.lt
      (have hz0 := hZ.cell 0; have hz1 := hZ.cell 1; have hz2 := hZ.cell 2; have hz3 := hZ.cell 3; have hz4 := hZ.cell 4; have hz5 := hZ.cell 5; have hz6 := hZ.cell 6; simp [go_sem] at hz0 hz1 hz2 hz3 hz4 hz5 hz6)
      (have hy0 := hZ.frozen 0; have hy1 := hZ.frozen 1; have hy2 := hZ.frozen 2; have hy3 := hZ.frozen 3; have hy4 := hZ.frozen 4; have hy5 := hZ.frozen 5; have hy6 := hZ.frozen 6)
      clear hZ
      have HE := hid (HR.out.symm.trans HD.out)
      go_wp2_with fail
      refine bodyPost_ret (v := .tuple #[DayV.val ⟨D.1, A', c'⟩, .int .i64 D.2, .bool true]) (by simp [results, Try.results16, go_sem, *]) rfl ?_
      rw [HE.out]
      have hg3 := HG3.out
      exact ⟨⟨A', c', rfl, OwnF.less (OwnF.set7 HO2.out (by omega)) (by omega)⟩, by (repeat (first | with_reducible exact grew_refl _ | with_reducible assumption | with_reducible refine grew_split ?_ | with_reducible refine grew_mk ?_ | with_reducible refine grew_plus ?_ | with_reducible refine grew_alloc ?_ | with_reducible refine grew_drew ?_ | (with_reducible refine grew_set ?_ (by first | exact Nat.le_refl _ | omega | (simp [go_sem]; done) | (simp [go_sem]; omega)))))⟩
end Go.Proofs.Ytcljcbbkbepmjaa
