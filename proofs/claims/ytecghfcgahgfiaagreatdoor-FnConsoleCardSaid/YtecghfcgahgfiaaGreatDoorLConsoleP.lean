import Derived.Test.YtecghfcgahgfiaaGreatDoorP6
import Derived.Test.YtecghfcgahgfiaaGreatDoorP10
import Derived.Test.YtecghfcgahgfiaaGreatDoorP34
import Derived.Test.YtecghfcgahgfiaaGreatDoorP41
import Derived.Test.YtecghfcgahgfiaaGreatDoorP27
import Derived.Test.YtecghfcgahgfiaaGreatDoorP25
import Derived.Test.YtecghfcgahgfiaaGreatDoorP29
/- The law FnConsole: executing any command in a valid console yields a valid console whose log records the command and its reply. No condition beyond the row's own: the tables that strconv reads, and the errors that it hands out, hold what they hold at the start. -/
namespace Go.Proofs.YtecghfcgahgfiaaGreatDoor
open Go.ChangeShapes Go.WideShapes Go.ChangeAt Go.RowKit Go.Deep Go.Joins
open Go.ChangeMaps (open_string shut_string)

attribute [local go_sem ↓] Go.wp_at_zero Go.wp_at_succ
set_option maxHeartbeats 8000000 in
set_option maxRecDepth 100000 in
theorem l_FnConsole (A : Option Addr) (c : Nat) (bs : List Int) (w : World) (hA : Sl w 1 byteRow A bs) (hb : ∀ x ∈ bs, 0 ≤ x ∧ x ≤ 255) (_hl : bs.length ≤ maxLen) (hE : Env w) (hY : Syn w) :
    Calls Tryz.prog 3 #[.slice A bs.length c] w fun e' w' => e' = .returned (.bool true) ∧ ∃ g, w' = plus w g := by
  have HA := hid hA
  have HB := hid hb
  have HE := hid hE
  have HY := hid hY
  clear hA hb hE hY
  by_cases hbig : (65536 : Int) < (bs.length : Int)
  · go_enter Tryz.func3, Tryz.ntmps3
    go_wp2_with (go_at_call 6; refine (l_vBig _ _ _ _).mono ?_; (rintro e w' ⟨rfl, rfl⟩))
    go_ret
    exact ⟨rfl, by (repeat (first | with_reducible exact grew_refl _ | with_reducible assumption | with_reducible refine grew_split ?_ | with_reducible refine grew_mk ?_ | with_reducible refine grew_plus ?_ | with_reducible refine grew_alloc ?_ | with_reducible refine grew_drew ?_ | (with_reducible refine grew_set ?_ (by first | exact Nat.le_refl _ | omega | (simp [go_sem]; done) | (simp [go_sem]; omega)))))⟩
  have HC := hid (show Code0 w A bs from ⟨HA.out, HB.out, by omega⟩)
  clear HA HB
  go_enter Tryz.func3, Tryz.ntmps3
  go_wp2_with (go_at_call 6; refine (l_vBig _ _ _ _).mono ?_; (rintro e w' ⟨rfl, rfl⟩))
  refine (s_DrawExecuteCommand A c bs _ HC.out HE.out).mono ?_
  rintro e W1 ⟨⟨v, l, line, rfl, hv8, hS, hl1, hl2, hls⟩, hg⟩
  have HG := hid hg
  have HE1 := hid (HE.out.grew hg)
  have HY1 := hid (HY.out.grew hg)
  have HS := hid hS
  clear hS hg
  obtain ⟨D, L, r, hp⟩ : ∃ D L r, exeF v.core l line = (D, L, r) := ⟨_, _, _, rfl⟩
  have hlaw := console_law hp
  obtain ⟨hD8, hL1, hL2⟩ : D.lines.length ≤ 8 ∧ L.d.size ≤ 30000 ∧ L.p.size ≤ 30000 := by
    rcases hlaw with ⟨rfl, rfl, _⟩ | ⟨_, h, _⟩
    · exact ⟨hv8, hl1, hl2⟩
    · obtain ⟨q1, q2, q3⟩ := conOk_small h
      exact ⟨q1, by omega, by omega⟩
  have HP := hid hp
  have HLAW := hid hlaw
  clear hp hlaw
  go_wp2_with fail
  refine (i_ExecuteCommand v l line _ (HS.out.grew (by (repeat (first | with_reducible exact grew_refl _ | with_reducible assumption | with_reducible refine grew_split ?_ | with_reducible refine grew_mk ?_ | with_reducible refine grew_plus ?_ | with_reducible refine grew_alloc ?_ | with_reducible refine grew_drew ?_ | (with_reducible refine grew_set ?_ (by first | exact Nat.le_refl _ | omega | (simp [go_sem]; done) | (simp [go_sem]; omega))))))) (by omega) (by omega) (by omega) (by omega) (HE1.out.grew (by (repeat (first | with_reducible exact grew_refl _ | with_reducible assumption | with_reducible refine grew_split ?_ | with_reducible refine grew_mk ?_ | with_reducible refine grew_plus ?_ | with_reducible refine grew_alloc ?_ | with_reducible refine grew_drew ?_ | (with_reducible refine grew_set ?_ (by first | exact Nat.le_refl _ | omega | (simp [go_sem]; done) | (simp [go_sem]; omega))))))) (HY1.out.grew (by (repeat (first | with_reducible exact grew_refl _ | with_reducible assumption | with_reducible refine grew_split ?_ | with_reducible refine grew_mk ?_ | with_reducible refine grew_plus ?_ | with_reducible refine grew_alloc ?_ | with_reducible refine grew_drew ?_ | (with_reducible refine grew_set ?_ (by first | exact Nat.le_refl _ | omega | (simp [go_sem]; done) | (simp [go_sem]; omega)))))))).mono ?_
  rw [HP.out]
  rintro e w' ⟨⟨A1, c1, rfl, hO1⟩, g1, rfl⟩
  (try rw [plus_plus] at hO1)
  have O1 := hid hO1.sl
  clear hO1
  go_wp2_with fail
  refine (s_ExecuteCommand v l line _ (HS.out.grew (by (repeat (first | with_reducible exact grew_refl _ | with_reducible assumption | with_reducible refine grew_split ?_ | with_reducible refine grew_mk ?_ | with_reducible refine grew_plus ?_ | with_reducible refine grew_alloc ?_ | with_reducible refine grew_drew ?_ | (with_reducible refine grew_set ?_ (by first | exact Nat.le_refl _ | omega | (simp [go_sem]; done) | (simp [go_sem]; omega))))))) (by omega) (by omega) (by omega) (by omega) (HE1.out.grew (by (repeat (first | with_reducible exact grew_refl _ | with_reducible assumption | with_reducible refine grew_split ?_ | with_reducible refine grew_mk ?_ | with_reducible refine grew_plus ?_ | with_reducible refine grew_alloc ?_ | with_reducible refine grew_drew ?_ | (with_reducible refine grew_set ?_ (by first | exact Nat.le_refl _ | omega | (simp [go_sem]; done) | (simp [go_sem]; omega)))))))).mono ?_
  rw [HP.out]
  rintro e w' ⟨⟨A2, c2, rfl, hO2⟩, g2, rfl⟩
  (try rw [plus_plus] at hO2)
  have O2 := hid hO2.sl
  clear hO2
  go_upto_region 6 with fail
  generalize hb5 : W1.heap.size + 1 + g1.objs.size = b5
  generalize hb7 : b5 + 1 + g2.objs.size = b7
  refine opq_wp (fun W2 => Blk W2 W1.heap.size 30 #[.int .i64 (v.core).minute, .int .i64 (v.core).state, .slice v.A (v.core).lines.length v.c, .int .i64 (v.core).line, .int .i64 (v.core).since, .int .i64 (v.core).cast, .int .i64 (v.core).fuel, .string (l).d, .string (l).p, .int .i64 (l).n] ∧ Blk W2 b5 30 #[.int .i64 (D).minute, .int .i64 (D).state, .slice A1 (D).lines.length c1, .int .i64 (D).line, .int .i64 (D).since, .int .i64 (D).cast, .int .i64 (D).fuel, .string (L).d, .string (L).p, .int .i64 (L).n] ∧ Blk W2 b7 30 #[.int .i64 (D).minute, .int .i64 (D).state, .slice A2 (D).lines.length c2, .int .i64 (D).line, .int .i64 (D).since, .int .i64 (D).cast, .int .i64 (D).fuel, .string (L).d, .string (L).p, .int .i64 (L).n] ∧ Sl W2 2 LineR.row v.A v.core.lines ∧ Sl W2 2 LineR.row A1 D.lines ∧ Sl W2 2 LineR.row A2 D.lines ∧ ∃ g, W2 = plus w g) ⟨blk_grew (blk_new rfl) (by (repeat (first | with_reducible exact grew_refl _ | with_reducible assumption | with_reducible refine grew_split ?_ | with_reducible refine grew_mk ?_ | with_reducible refine grew_plus ?_ | with_reducible refine grew_alloc ?_ | with_reducible refine grew_drew ?_ | (with_reducible refine grew_set ?_ (by first | exact Nat.le_refl _ | omega | (simp [go_sem]; done) | (simp [go_sem]; omega)))))), blk_grew (blk_new (w := plus (W1.alloc _) g1) (by subst hb5; simp [go_sem])) (by (repeat (first | with_reducible exact grew_refl _ | with_reducible assumption | with_reducible refine grew_split ?_ | with_reducible refine grew_mk ?_ | with_reducible refine grew_plus ?_ | with_reducible refine grew_alloc ?_ | with_reducible refine grew_drew ?_ | (with_reducible refine grew_set ?_ (by first | exact Nat.le_refl _ | omega | (simp [go_sem]; done) | (simp [go_sem]; omega)))))), blk_new (by subst hb7 hb5; simp [go_sem]), HS.out.grew (by (repeat (first | with_reducible exact grew_refl _ | with_reducible assumption | with_reducible refine grew_split ?_ | with_reducible refine grew_mk ?_ | with_reducible refine grew_plus ?_ | with_reducible refine grew_alloc ?_ | with_reducible refine grew_drew ?_ | (with_reducible refine grew_set ?_ (by first | exact Nat.le_refl _ | omega | (simp [go_sem]; done) | (simp [go_sem]; omega)))))), O1.out.grew (by (repeat (first | with_reducible exact grew_refl _ | with_reducible assumption | with_reducible refine grew_split ?_ | with_reducible refine grew_mk ?_ | with_reducible refine grew_plus ?_ | with_reducible refine grew_alloc ?_ | with_reducible refine grew_drew ?_ | (with_reducible refine grew_set ?_ (by first | exact Nat.le_refl _ | omega | (simp [go_sem]; done) | (simp [go_sem]; omega)))))), O2.out.grew (by (repeat (first | with_reducible exact grew_refl _ | with_reducible assumption | with_reducible refine grew_split ?_ | with_reducible refine grew_mk ?_ | with_reducible refine grew_plus ?_ | with_reducible refine grew_alloc ?_ | with_reducible refine grew_drew ?_ | (with_reducible refine grew_set ?_ (by first | exact Nat.le_refl _ | omega | (simp [go_sem]; done) | (simp [go_sem]; omega)))))), by have hg := HG.out; (repeat (first | with_reducible exact grew_refl _ | with_reducible assumption | with_reducible refine grew_split ?_ | with_reducible refine grew_mk ?_ | with_reducible refine grew_plus ?_ | with_reducible refine grew_alloc ?_ | with_reducible refine grew_drew ?_ | (with_reducible refine grew_set ?_ (by first | exact Nat.le_refl _ | omega | (simp [go_sem]; done) | (simp [go_sem]; omega)))))⟩ ?_
  clear hb5 hb7 HS O1 O2 HG HE1 HY1
  rintro W2 ⟨hBc, hBm, hBw, hS, hS1, hS2, hg2⟩
  have HV := hid (DayV.At.mk (v := v) hS (by unfold maxLen; omega))
  have HM1 := hid (DayV.At.mk (v := ⟨D, A1, c1⟩) hS1 (by unfold maxLen; simp only; omega))
  have HM2 := hid (DayV.At.mk (v := ⟨D, A2, c2⟩) hS2 (by unfold maxLen; simp only; omega))
  have HG2 := hid hg2
  have HE2 := hid (HE.out.grew hg2)
  have hlc := hBc.lt
  have hlm := hBm.lt
  have hlw := hBw.lt
  (have hc0 := hBc.cell 0; have hc1 := hBc.cell 1; have hc2 := hBc.cell 2; have hc3 := hBc.cell 3; have hc4 := hBc.cell 4; have hc5 := hBc.cell 5; have hc6 := hBc.cell 6; have hc7 := hBc.cell 7; have hc8 := hBc.cell 8; have hc9 := hBc.cell 9; simp [go_sem] at hc0 hc1 hc2 hc3 hc4 hc5 hc6 hc7 hc8 hc9)
  (have hm0 := hBm.cell 0; have hm1 := hBm.cell 1; have hm2 := hBm.cell 2; have hm3 := hBm.cell 3; have hm4 := hBm.cell 4; have hm5 := hBm.cell 5; have hm6 := hBm.cell 6; have hm7 := hBm.cell 7; have hm8 := hBm.cell 8; have hm9 := hBm.cell 9; simp [go_sem] at hm0 hm1 hm2 hm3 hm4 hm5 hm6 hm7 hm8 hm9)
  (have hw0 := hBw.cell 0; have hw1 := hBw.cell 1; have hw2 := hBw.cell 2; have hw3 := hBw.cell 3; have hw4 := hBw.cell 4; have hw5 := hBw.cell 5; have hw6 := hBw.cell 6; have hw7 := hBw.cell 7; have hw8 := hBw.cell 8; have hw9 := hBw.cell 9; simp [go_sem] at hw0 hw1 hw2 hw3 hw4 hw5 hw6 hw7 hw8 hw9)
  have HBC := hid hBc
  have HBM := hid hBm
  clear hBc hBm hBw hS hS1 hS2 hg2
  go_cut [45] (fun t wx => t = .bool false ∧ ∃ g, wx = plus W2 g)
  case first =>
    obtain ⟨o, ho⟩ : ∃ o, conOk v.core l = o := ⟨_, rfl⟩
    have HO := hid ho
    have e1 : (r.toList != r.toList) = false := by simp
    have e2 : (o != o) = false := by simp
    clear ho
    (refine wp_region_calm (by kernel_rfl) (by kernel_rfl) ?_; (repeat' (first | go_big_quiet_step ((first | (go_at_call 10; first | with_reducible exact calm_of (l_vConsole D L A1 A2 c1 c2 _ (HM1.out.grew (by (repeat (first | with_reducible exact grew_refl _ | with_reducible assumption | with_reducible refine grew_split ?_ | with_reducible refine grew_mk ?_ | with_reducible refine grew_plus ?_ | with_reducible refine grew_alloc ?_ | with_reducible refine grew_drew ?_ | (with_reducible refine grew_set ?_ (by first | exact Nat.le_refl _ | omega | (simp [go_sem]; done) | (simp [go_sem]; omega))))))) (HM2.out.grew (by (repeat (first | with_reducible exact grew_refl _ | with_reducible assumption | with_reducible refine grew_split ?_ | with_reducible refine grew_mk ?_ | with_reducible refine grew_plus ?_ | with_reducible refine grew_alloc ?_ | with_reducible refine grew_drew ?_ | (with_reducible refine grew_set ?_ (by first | exact Nat.le_refl _ | omega | (simp [go_sem]; done) | (simp [go_sem]; omega)))))))) | with_reducible exact calm_add (l_vConsole D L A1 A2 c1 c2 _ (HM1.out.grew (by (repeat (first | with_reducible exact grew_refl _ | with_reducible assumption | with_reducible refine grew_split ?_ | with_reducible refine grew_mk ?_ | with_reducible refine grew_plus ?_ | with_reducible refine grew_alloc ?_ | with_reducible refine grew_drew ?_ | (with_reducible refine grew_set ?_ (by first | exact Nat.le_refl _ | omega | (simp [go_sem]; done) | (simp [go_sem]; omega))))))) (HM2.out.grew (by (repeat (first | with_reducible exact grew_refl _ | with_reducible assumption | with_reducible refine grew_split ?_ | with_reducible refine grew_mk ?_ | with_reducible refine grew_plus ?_ | with_reducible refine grew_alloc ?_ | with_reducible refine grew_drew ?_ | (with_reducible refine grew_set ?_ (by first | exact Nat.le_refl _ | omega | (simp [go_sem]; done) | (simp [go_sem]; omega))))))))) | (go_at_call 11; first | with_reducible exact calm_of (i_IsValidConsole v l o HO.out _ (HV.out.grew (by (repeat (first | with_reducible exact grew_refl _ | with_reducible assumption | with_reducible refine grew_split ?_ | with_reducible refine grew_mk ?_ | with_reducible refine grew_plus ?_ | with_reducible refine grew_alloc ?_ | with_reducible refine grew_drew ?_ | (with_reducible refine grew_set ?_ (by first | exact Nat.le_refl _ | omega | (simp [go_sem]; done) | (simp [go_sem]; omega))))))) (by omega) (by omega) (HE2.out.grew (by (repeat (first | with_reducible exact grew_refl _ | with_reducible assumption | with_reducible refine grew_split ?_ | with_reducible refine grew_mk ?_ | with_reducible refine grew_plus ?_ | with_reducible refine grew_alloc ?_ | with_reducible refine grew_drew ?_ | (with_reducible refine grew_set ?_ (by first | exact Nat.le_refl _ | omega | (simp [go_sem]; done) | (simp [go_sem]; omega)))))))) | with_reducible exact calm_add (i_IsValidConsole v l o HO.out _ (HV.out.grew (by (repeat (first | with_reducible exact grew_refl _ | with_reducible assumption | with_reducible refine grew_split ?_ | with_reducible refine grew_mk ?_ | with_reducible refine grew_plus ?_ | with_reducible refine grew_alloc ?_ | with_reducible refine grew_drew ?_ | (with_reducible refine grew_set ?_ (by first | exact Nat.le_refl _ | omega | (simp [go_sem]; done) | (simp [go_sem]; omega))))))) (by omega) (by omega) (HE2.out.grew (by (repeat (first | with_reducible exact grew_refl _ | with_reducible assumption | with_reducible refine grew_split ?_ | with_reducible refine grew_mk ?_ | with_reducible refine grew_plus ?_ | with_reducible refine grew_alloc ?_ | with_reducible refine grew_drew ?_ | (with_reducible refine grew_set ?_ (by first | exact Nat.le_refl _ | omega | (simp [go_sem]; done) | (simp [go_sem]; omega))))))))) | (go_at_call 12; first | with_reducible exact calm_of (s_IsValidConsole v l o HO.out _ (HV.out.grew (by (repeat (first | with_reducible exact grew_refl _ | with_reducible assumption | with_reducible refine grew_split ?_ | with_reducible refine grew_mk ?_ | with_reducible refine grew_plus ?_ | with_reducible refine grew_alloc ?_ | with_reducible refine grew_drew ?_ | (with_reducible refine grew_set ?_ (by first | exact Nat.le_refl _ | omega | (simp [go_sem]; done) | (simp [go_sem]; omega))))))) (by omega) (by omega) (HE2.out.grew (by (repeat (first | with_reducible exact grew_refl _ | with_reducible assumption | with_reducible refine grew_split ?_ | with_reducible refine grew_mk ?_ | with_reducible refine grew_plus ?_ | with_reducible refine grew_alloc ?_ | with_reducible refine grew_drew ?_ | (with_reducible refine grew_set ?_ (by first | exact Nat.le_refl _ | omega | (simp [go_sem]; done) | (simp [go_sem]; omega)))))))) | with_reducible exact calm_add (s_IsValidConsole v l o HO.out _ (HV.out.grew (by (repeat (first | with_reducible exact grew_refl _ | with_reducible assumption | with_reducible refine grew_split ?_ | with_reducible refine grew_mk ?_ | with_reducible refine grew_plus ?_ | with_reducible refine grew_alloc ?_ | with_reducible refine grew_drew ?_ | (with_reducible refine grew_set ?_ (by first | exact Nat.le_refl _ | omega | (simp [go_sem]; done) | (simp [go_sem]; omega))))))) (by omega) (by omega) (HE2.out.grew (by (repeat (first | with_reducible exact grew_refl _ | with_reducible assumption | with_reducible refine grew_split ?_ | with_reducible refine grew_mk ?_ | with_reducible refine grew_plus ?_ | with_reducible refine grew_alloc ?_ | with_reducible refine grew_drew ?_ | (with_reducible refine grew_set ?_ (by first | exact Nat.le_refl _ | omega | (simp [go_sem]; done) | (simp [go_sem]; omega))))))))))) | (refine wpQuiet_step (fun K hK => ?_); go_simp; go_ite <;> go_simp <;> (first | (refine hK _ ?_; clear hK K) | (apply Exists.intro; refine ⟨fun _ => ?_, hK _ ?_⟩; ((first | (go_at_call 10; first | with_reducible exact calm_of (l_vConsole D L A1 A2 c1 c2 _ (HM1.out.grew (by (repeat (first | with_reducible exact grew_refl _ | with_reducible assumption | with_reducible refine grew_split ?_ | with_reducible refine grew_mk ?_ | with_reducible refine grew_plus ?_ | with_reducible refine grew_alloc ?_ | with_reducible refine grew_drew ?_ | (with_reducible refine grew_set ?_ (by first | exact Nat.le_refl _ | omega | (simp [go_sem]; done) | (simp [go_sem]; omega))))))) (HM2.out.grew (by (repeat (first | with_reducible exact grew_refl _ | with_reducible assumption | with_reducible refine grew_split ?_ | with_reducible refine grew_mk ?_ | with_reducible refine grew_plus ?_ | with_reducible refine grew_alloc ?_ | with_reducible refine grew_drew ?_ | (with_reducible refine grew_set ?_ (by first | exact Nat.le_refl _ | omega | (simp [go_sem]; done) | (simp [go_sem]; omega)))))))) | with_reducible exact calm_add (l_vConsole D L A1 A2 c1 c2 _ (HM1.out.grew (by (repeat (first | with_reducible exact grew_refl _ | with_reducible assumption | with_reducible refine grew_split ?_ | with_reducible refine grew_mk ?_ | with_reducible refine grew_plus ?_ | with_reducible refine grew_alloc ?_ | with_reducible refine grew_drew ?_ | (with_reducible refine grew_set ?_ (by first | exact Nat.le_refl _ | omega | (simp [go_sem]; done) | (simp [go_sem]; omega))))))) (HM2.out.grew (by (repeat (first | with_reducible exact grew_refl _ | with_reducible assumption | with_reducible refine grew_split ?_ | with_reducible refine grew_mk ?_ | with_reducible refine grew_plus ?_ | with_reducible refine grew_alloc ?_ | with_reducible refine grew_drew ?_ | (with_reducible refine grew_set ?_ (by first | exact Nat.le_refl _ | omega | (simp [go_sem]; done) | (simp [go_sem]; omega))))))))) | (go_at_call 11; first | with_reducible exact calm_of (i_IsValidConsole v l o HO.out _ (HV.out.grew (by (repeat (first | with_reducible exact grew_refl _ | with_reducible assumption | with_reducible refine grew_split ?_ | with_reducible refine grew_mk ?_ | with_reducible refine grew_plus ?_ | with_reducible refine grew_alloc ?_ | with_reducible refine grew_drew ?_ | (with_reducible refine grew_set ?_ (by first | exact Nat.le_refl _ | omega | (simp [go_sem]; done) | (simp [go_sem]; omega))))))) (by omega) (by omega) (HE2.out.grew (by (repeat (first | with_reducible exact grew_refl _ | with_reducible assumption | with_reducible refine grew_split ?_ | with_reducible refine grew_mk ?_ | with_reducible refine grew_plus ?_ | with_reducible refine grew_alloc ?_ | with_reducible refine grew_drew ?_ | (with_reducible refine grew_set ?_ (by first | exact Nat.le_refl _ | omega | (simp [go_sem]; done) | (simp [go_sem]; omega)))))))) | with_reducible exact calm_add (i_IsValidConsole v l o HO.out _ (HV.out.grew (by (repeat (first | with_reducible exact grew_refl _ | with_reducible assumption | with_reducible refine grew_split ?_ | with_reducible refine grew_mk ?_ | with_reducible refine grew_plus ?_ | with_reducible refine grew_alloc ?_ | with_reducible refine grew_drew ?_ | (with_reducible refine grew_set ?_ (by first | exact Nat.le_refl _ | omega | (simp [go_sem]; done) | (simp [go_sem]; omega))))))) (by omega) (by omega) (HE2.out.grew (by (repeat (first | with_reducible exact grew_refl _ | with_reducible assumption | with_reducible refine grew_split ?_ | with_reducible refine grew_mk ?_ | with_reducible refine grew_plus ?_ | with_reducible refine grew_alloc ?_ | with_reducible refine grew_drew ?_ | (with_reducible refine grew_set ?_ (by first | exact Nat.le_refl _ | omega | (simp [go_sem]; done) | (simp [go_sem]; omega))))))))) | (go_at_call 12; first | with_reducible exact calm_of (s_IsValidConsole v l o HO.out _ (HV.out.grew (by (repeat (first | with_reducible exact grew_refl _ | with_reducible assumption | with_reducible refine grew_split ?_ | with_reducible refine grew_mk ?_ | with_reducible refine grew_plus ?_ | with_reducible refine grew_alloc ?_ | with_reducible refine grew_drew ?_ | (with_reducible refine grew_set ?_ (by first | exact Nat.le_refl _ | omega | (simp [go_sem]; done) | (simp [go_sem]; omega))))))) (by omega) (by omega) (HE2.out.grew (by (repeat (first | with_reducible exact grew_refl _ | with_reducible assumption | with_reducible refine grew_split ?_ | with_reducible refine grew_mk ?_ | with_reducible refine grew_plus ?_ | with_reducible refine grew_alloc ?_ | with_reducible refine grew_drew ?_ | (with_reducible refine grew_set ?_ (by first | exact Nat.le_refl _ | omega | (simp [go_sem]; done) | (simp [go_sem]; omega)))))))) | with_reducible exact calm_add (s_IsValidConsole v l o HO.out _ (HV.out.grew (by (repeat (first | with_reducible exact grew_refl _ | with_reducible assumption | with_reducible refine grew_split ?_ | with_reducible refine grew_mk ?_ | with_reducible refine grew_plus ?_ | with_reducible refine grew_alloc ?_ | with_reducible refine grew_drew ?_ | (with_reducible refine grew_set ?_ (by first | exact Nat.le_refl _ | omega | (simp [go_sem]; done) | (simp [go_sem]; omega))))))) (by omega) (by omega) (HE2.out.grew (by (repeat (first | with_reducible exact grew_refl _ | with_reducible assumption | with_reducible refine grew_split ?_ | with_reducible refine grew_mk ?_ | with_reducible refine grew_plus ?_ | with_reducible refine grew_alloc ?_ | with_reducible refine grew_drew ?_ | (with_reducible refine grew_set ?_ (by first | exact Nat.le_refl _ | omega | (simp [go_sem]; done) | (simp [go_sem]; omega))))))))))); clear hK K))))); all_goals (refine wpQuiet_nil ?_; intro _ hw'; obtain ⟨gq, hw''⟩ := hw'; subst hw''))
    go_wp2_with fail
    go_meet
    exact ⟨rfl, _, rfl⟩
  case rest =>
    obtain ⟨rfl, gr, rfl⟩ := hcut
    clear hw0 hw1 hw2 hw3 hw4 hw5 hw6 hw7 hw8 hw9 hlw HM2
    rcases HLAW.out with ⟨rfl, rfl, hr⟩ | ⟨h1, h2, h3, h4, h5, h6, h7, h8, h9, _⟩
    · have f1 : (L.d.toList == L.d.toList) = true := by simp
      have f2 : (L.p.toList == L.p.toList) = true := by simp
      have f3 : (L.n == L.n) = true := by simp
      have hx : r.toList = [110, 111] ∨ (¬ r.toList = [110, 111] ∧ r.toList = [98, 97, 100]) ∨ (¬ r.toList = [110, 111] ∧ ¬ r.toList = [98, 97, 100] ∧ r.toList = [102, 117, 108, 108]) := by
        rcases hr with rfl | rfl | rfl
        · exact .inl (by simp [ByteArray.toList_eq, Go.Proofs.YtecghfcgahgfiaaGreatDoor.bs])
        · exact .inr (.inl ⟨by simp [ByteArray.toList_eq, Go.Proofs.YtecghfcgahgfiaaGreatDoor.bs], by simp [ByteArray.toList_eq, Go.Proofs.YtecghfcgahgfiaaGreatDoor.bs]⟩)
        · exact .inr (.inr ⟨by simp [ByteArray.toList_eq, Go.Proofs.YtecghfcgahgfiaaGreatDoor.bs], by simp [ByteArray.toList_eq, Go.Proofs.YtecghfcgahgfiaaGreatDoor.bs], by simp [ByteArray.toList_eq, Go.Proofs.YtecghfcgahgfiaaGreatDoor.bs]⟩)
      clear hr
      rcases hx with g1 | ⟨g1, g2⟩ | ⟨g1, g2, g3⟩
      all_goals
        go_wp2_with (go_at_call 10; refine (l_vConsole v.core L A1 v.A c1 v.c _ (HM1.out.grew (by (repeat (first | with_reducible exact grew_refl _ | with_reducible assumption | with_reducible refine grew_split ?_ | with_reducible refine grew_mk ?_ | with_reducible refine grew_plus ?_ | with_reducible refine grew_alloc ?_ | with_reducible refine grew_drew ?_ | (with_reducible refine grew_set ?_ (by first | exact Nat.le_refl _ | omega | (simp [go_sem]; done) | (simp [go_sem]; omega))))))) (HV.out.grew (by (repeat (first | with_reducible exact grew_refl _ | with_reducible assumption | with_reducible refine grew_split ?_ | with_reducible refine grew_mk ?_ | with_reducible refine grew_plus ?_ | with_reducible refine grew_alloc ?_ | with_reducible refine grew_drew ?_ | (with_reducible refine grew_set ?_ (by first | exact Nat.le_refl _ | omega | (simp [go_sem]; done) | (simp [go_sem]; omega)))))))).mono ?_; (rintro e w' ⟨rfl, gx, rfl⟩))
        go_ret
        have h := HG2.out
        exact ⟨rfl, by (repeat (first | with_reducible exact grew_refl _ | with_reducible assumption | with_reducible refine grew_split ?_ | with_reducible refine grew_mk ?_ | with_reducible refine grew_plus ?_ | with_reducible refine grew_alloc ?_ | with_reducible refine grew_drew ?_ | (with_reducible refine grew_set ?_ (by first | exact Nat.le_refl _ | omega | (simp [go_sem]; done) | (simp [go_sem]; omega)))))⟩
    · have f1 : (L.d.toList == l.d.toList) = true := by rw [h6]; simp
      have f3 : (L.n == l.n) = false := by rw [h8]; simp; omega
      obtain ⟨P, hP⟩ : ∃ P, lrF l = P := ⟨_, rfl⟩
      have hPl := lrF_len l
      rw [hP] at h4 h5 hPl
      have HQ := hid h4
      have H2 := hid h2
      have H3 := hid h3
      rw [← h5] at hc9 f3
      have H5 := hid h5
      clear h1 h2 h3 h4 h5 h6 h8 hP
      go_wp2_with fail
      refine (i_LogRecords L _ (by omega) (by omega) (HE2.out.grew (by (repeat (first | with_reducible exact grew_refl _ | with_reducible assumption | with_reducible refine grew_split ?_ | with_reducible refine grew_mk ?_ | with_reducible refine grew_plus ?_ | with_reducible refine grew_alloc ?_ | with_reducible refine grew_drew ?_ | (with_reducible refine grew_set ?_ (by first | exact Nat.le_refl _ | omega | (simp [go_sem]; done) | (simp [go_sem]; omega)))))))).mono ?_
      rw [HQ.out, H3.out]
      rintro e w' ⟨⟨A4, c4, rfl, hO4⟩, g4, rfl⟩
      (try rw [plus_plus] at hO4)
      have O4 := hid hO4.sl
      clear hO4
      go_upto_region 11 with fail
      refine opq_wp (fun W3 => Blk W3 W1.heap.size 30 #[.int .i64 v.core.minute, .int .i64 v.core.state, .slice v.A v.core.lines.length v.c, .int .i64 v.core.line, .int .i64 v.core.since, .int .i64 v.core.cast, .int .i64 v.core.fuel, .string l.d, .string l.p, .int .i64 P.length] ∧ Blk W3 b5 30 #[.int .i64 (D).minute, .int .i64 (D).state, .slice A1 (D).lines.length c1, .int .i64 (D).line, .int .i64 (D).since, .int .i64 (D).cast, .int .i64 (D).fuel, .string (L).d, .string (L).p, .int .i64 (L).n] ∧ Sl W3 2 RecR.row A4 (P ++ [⟨line, r⟩]) ∧ ∃ g, W3 = plus W2 g) ⟨blk_grew (by rw [H5.out]; exact HBC.out) (by (repeat (first | with_reducible exact grew_refl _ | with_reducible assumption | with_reducible refine grew_split ?_ | with_reducible refine grew_mk ?_ | with_reducible refine grew_plus ?_ | with_reducible refine grew_alloc ?_ | with_reducible refine grew_drew ?_ | (with_reducible refine grew_set ?_ (by first | exact Nat.le_refl _ | omega | (simp [go_sem]; done) | (simp [go_sem]; omega)))))), blk_grew HBM.out (by (repeat (first | with_reducible exact grew_refl _ | with_reducible assumption | with_reducible refine grew_split ?_ | with_reducible refine grew_mk ?_ | with_reducible refine grew_plus ?_ | with_reducible refine grew_alloc ?_ | with_reducible refine grew_drew ?_ | (with_reducible refine grew_set ?_ (by first | exact Nat.le_refl _ | omega | (simp [go_sem]; done) | (simp [go_sem]; omega)))))), O4.out.grew (by (repeat (first | with_reducible exact grew_refl _ | with_reducible assumption | with_reducible refine grew_split ?_ | with_reducible refine grew_mk ?_ | with_reducible refine grew_plus ?_ | with_reducible refine grew_alloc ?_ | with_reducible refine grew_drew ?_ | (with_reducible refine grew_set ?_ (by first | exact Nat.le_refl _ | omega | (simp [go_sem]; done) | (simp [go_sem]; omega)))))), by (repeat (first | with_reducible exact grew_refl _ | with_reducible assumption | with_reducible refine grew_split ?_ | with_reducible refine grew_mk ?_ | with_reducible refine grew_plus ?_ | with_reducible refine grew_alloc ?_ | with_reducible refine grew_drew ?_ | (with_reducible refine grew_set ?_ (by first | exact Nat.le_refl _ | omega | (simp [go_sem]; done) | (simp [go_sem]; omega)))))⟩ ?_
      clear O4 hlc hc0 hc1 hc2 hc3 hc4 hc5 hc6 hc7 hc8 hc9 hlm hm0 hm1 hm2 hm3 hm4 hm5 hm6 hm7 hm8 hm9 HBC HBM
      rintro W3 ⟨hB, hM, h4, hg⟩
      have HE3 := hid (HE2.out.grew hg)
      have HM3 := hid (HM1.out.grew hg)
      have HG3 := hid (grew_two' HG2.out hg)
      have hlc := hB.lt
      have hlm := hM.lt
      have hc9 := hB.cell 9
      simp [go_sem] at hc9
      (have hm0 := hM.cell 0; have hm1 := hM.cell 1; have hm2 := hM.cell 2; have hm3 := hM.cell 3; have hm4 := hM.cell 4; have hm5 := hM.cell 5; have hm6 := hM.cell 6; have hm7 := hM.cell 7; have hm8 := hM.cell 8; have hm9 := hM.cell 9; simp [go_sem] at hm0 hm1 hm2 hm3 hm4 hm5 hm6 hm7 hm8 hm9)
      obtain ⟨b4, off4, rfl, hb4, hx4⟩ := h4.at_ (k := P.length) (by simp)
      have hy := rcells hx4 (k := P.length) (by simp)
      rw [List.getElem_append_right (by omega)] at hy
      simp only [Nat.sub_self, List.getElem_cons_zero] at hy
      obtain ⟨y0, y1⟩ := hy
      have e1 : (line.toList == line.toList) = true := by simp
      have e2 : (r.toList == r.toList) = true := by simp
      have hw1 : IntKind.i64.wrap ((P.length : Int) + 1) = (P.length : Int) + 1 := IntWalk.i64_in _ (by omega)
      have hw2 : IntKind.i64.wrap ((P.length : Int) + 1 - 1) = (P.length : Int) := by rw [IntWalk.i64_in _ (by omega)]; omega
      have hw3 : IntKind.i64.wrap (P.length : Int) = (P.length : Int) := IntWalk.i64_in _ (by omega)
      have hk0 : (0 : Int) ≤ (P.length : Int) := by omega
      have hk1 : (P.length : Int) < (P.length : Int) + 1 := by omega
      clear hB hM h4 hg hx4 HE2 HM1 HG2
      go_wp2_with (go_at_call 11; refine (i_IsValidConsole ⟨D, A1, c1⟩ L true H2.out _ (HM3.out.grew (by (repeat (first | with_reducible exact grew_refl _ | with_reducible assumption | with_reducible refine grew_split ?_ | with_reducible refine grew_mk ?_ | with_reducible refine grew_plus ?_ | with_reducible refine grew_alloc ?_ | with_reducible refine grew_drew ?_ | (with_reducible refine grew_set ?_ (by first | exact Nat.le_refl _ | omega | (simp [go_sem]; done) | (simp [go_sem]; omega))))))) (by omega) (by omega) (HE3.out.grew (by (repeat (first | with_reducible exact grew_refl _ | with_reducible assumption | with_reducible refine grew_split ?_ | with_reducible refine grew_mk ?_ | with_reducible refine grew_plus ?_ | with_reducible refine grew_alloc ?_ | with_reducible refine grew_drew ?_ | (with_reducible refine grew_set ?_ (by first | exact Nat.le_refl _ | omega | (simp [go_sem]; done) | (simp [go_sem]; omega)))))))).mono ?_; (rintro e w' ⟨rfl, gx, rfl⟩))
      go_ret
      have h := HG3.out
      exact ⟨rfl, by (repeat (first | with_reducible exact grew_refl _ | with_reducible assumption | with_reducible refine grew_split ?_ | with_reducible refine grew_mk ?_ | with_reducible refine grew_plus ?_ | with_reducible refine grew_alloc ?_ | with_reducible refine grew_drew ?_ | (with_reducible refine grew_set ?_ (by first | exact Nat.le_refl _ | omega | (simp [go_sem]; done) | (simp [go_sem]; omega)))))⟩
theorem fnConsole_met (os : Os) : laidMet Tryz.prog Rows.fnConsoleRow.laid ((laidWorld os).forCall (fun _ _ => 0) ⟨#[], #[.slice none 0 0], []⟩).memory :=
  laidMet_of_run' 8 (by kernel_rfl) (by kernel_rfl)
theorem fnConsole_reads (os : Os) {H : Type} (enc : TypeId × Value → H) : ∃ places, DataW.whole enc Tryz.prog ((laidWorld os).forCall (fun _ _ => 0) ⟨#[], #[.slice none 0 0], []⟩).memory Tryz.f3.params.toList Rows.fnConsoleSpec.vars false (#[.slice none 0 0] : Array Value).toList 8 = some ([.nil], [], places) :=
  ⟨[], by kernel_rfl⟩
set_option maxRecDepth 100000 in
theorem fnConsole_contract (H : Type) (enc : TypeId × Value → H) (W : World) (base : Nat) (args : Array Value) (ds gs : List (DataW H)) (before : List MemPlace)
    (hval0 : ∀ (j : Nat) t v, Tryz.f3.params[j]? = some t → args[j]? = some v → Value.okWide Tryz.prog W .any base t v)
    (hW : DataW.Whole enc Tryz.prog Tryz.f3.params.toList Rows.fnConsoleSpec.vars false W args.toList ds gs before) (hL : laidMetH Tryz.prog Rows.fnConsoleRow.laid W) (_hsh : W.ShapedOpen Tryz.prog) :
    Calls Tryz.prog 3 args W fun e W' => ∃ v, e = .returned v ∧ Rows.fnConsoleSpec.post enc Tryz.prog Tryz.f3 false true false false W args v W' := by
  have hT : Tab W := tab_of hL
  have hval := hval0
  have hW' := hW
  obtain ⟨p, q, hA0, hV, rfl, hfz, hnd⟩ := hW
  have hA : DataW.TrodAll enc Tryz.prog W 0 (fun _ => true) true Tryz.f3.params.toList args.toList ds p := hA0
  rw [Tryz.params3] at hA hval
  obtain ⟨v0, vs0, d0, ds0, p0, q0, hargs, rfl, rfl, h0, r0⟩ := trodAll_cons hA
  obtain ⟨rfl, rfl, rfl⟩ := trodAll_nil r0
  obtain rfl : args = #[v0] := by cases args; simp_all
  obtain ⟨rfl, rfl⟩ := trodVars_none hV
  have k0 := h0
  have lt0 : ∀ x ∈ p0, x.block < W.heap.size := by obtain ⟨m, hm⟩ := k0; exact DataW.trod_lt m _ _ _ hm
  obtain ⟨A, c, l, rfl, hS, hb, hl⟩ := open_code (hval 0 22 v0 rfl rfl) h0
  clear hA0 hval0
  refine (l_FnConsole A c l W hS hb hl (env_of hT _hsh) (syn_of hL)).mono fun e W' ⟨he, hg⟩ => ?_
  have bel := below_of_grew hg
  subst he
  exact ⟨_, rfl, _, _, _, [], _, [], hW', trodAll_mk1 (shut_bool Tryz.underlying4 _), (trodAll_cons_mk (Below.trod laid_out (by kernel_rfl) (of_decide_eq_true (by kernel_rfl)) k0 bel lt0) trodAll_mk0), rfl, bel.frame _, fun h => by cases h⟩
set_option maxRecDepth 100000 in
theorem fnConsole_lifted (os : Os) (started : os.Started) (H : Type) (enc : TypeId × Value → H) (F : Stop.Interp) :
    ReturnsInHanded {} Tryz.checked os 3 .any ((OpenSpec.ofChange Rows.fnConsoleSpec).preRow enc Tryz.prog Tryz.f3 Rows.fnConsoleRow.domain false Rows.fnConsoleRow.laid) (((OpenSpec.ofChange Rows.fnConsoleSpec).at F).post enc Tryz.prog Tryz.f3 false true false false) := by
  obtain ⟨places, hx⟩ := fnConsole_reads os enc
  refine returnsInHanded_of_row (C := Tryz.checked) (s := OpenSpec.ofChange Rows.fnConsoleSpec) own_knob started (by kernel_rfl) Tryz.func3
    (witness_row_at (enc := enc) (C := Tryz.checked) false (laidWorld os) #[.slice none 0 0] rfl (by kernel_rfl) (by kernel_rfl) (by kernel_rfl)
      (OpenSpec.preRow_of_cond 8 hx (by kernel_rfl) (fun k hk => by cases hk) (by kernel_rfl) (fnConsole_met os))) ?_
  intro W base args ds gs before hval hW _ _ _ hL hsh _
  exact fnConsole_contract H enc W base args ds gs before hval hW hL hsh
theorem fnConsole_said : Rows.FnConsoleSaid :=
  OpenClaim.holds_of_cond 3 Tryz.f3 rfl rfl rfl rfl rfl rfl rfl ⟨rfl, rfl, rfl, rfl, rfl⟩ rfl rfl rfl rfl rfl (by kernel_rfl) Tryz.func3 (by kernel_rfl)
    (of_decide_eq_true (by kernel_rfl)) (by unfold Func.isWrapper; first | (rw [if_pos (by decide +kernel)]; kernel_rfl) | (rw [if_neg (by decide +kernel)]; exact ⟨rfl, rfl⟩))
    (fun os started H enc _ F => by rw [OpenClaim.pre_eq_preRow]; exact fnConsole_lifted os started H enc F)
theorem fnConsole_plain (f : FuncId) (fn : Func) (hf : Tryz.pinned.checked.prog.funcNamed Rows.fnConsoleRow.func = some f) (hfn : Tryz.pinned.checked.prog.funcs[f]? = some fn) :
    ∀ (j : Nat) t, fn.params[j]? = some t → Tryz.pinned.checked.prog.wantsStandIn t = false := by
  obtain rfl : f = 3 := Option.some.inj ((show Tryz.prog.funcNamed Rows.fnConsoleRow.func = some 3 by kernel_rfl).symm.trans hf) |>.symm
  obtain rfl : fn = Tryz.f3 := (Option.some.inj (Tryz.func3.symm.trans hfn)).symm
  intro j t ht
  have h : ∀ t ∈ Tryz.f3.params.toList, Tryz.prog.wantsStandIn t = false := by rw [Tryz.params3]; intro t ht; simp at ht; rcases ht with rfl <;> kernel_rfl
  exact h t (by simpa using Array.mem_of_getElem? ht)
theorem fnConsole_holds : Rows.FnConsoleCardSaid :=
  Claim7.holds_tied_plain_at .later [] _ _ _ _ fnConsole_said (fun _ h => by cases h) (by kernel_rfl) (fun _ h => by cases h) fnConsole_row_tie rfl ⟨rfl, rfl⟩ (by kernel_rfl) rfl (fun f fn hf hfn => ⟨by kernel_rfl, fnConsole_plain f fn hf hfn⟩) (by kernel_rfl)
end Go.Proofs.YtecghfcgahgfiaaGreatDoor
