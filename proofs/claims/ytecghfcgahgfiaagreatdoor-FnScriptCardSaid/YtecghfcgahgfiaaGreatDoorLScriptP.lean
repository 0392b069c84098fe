import Derived.Test.YtecghfcgahgfiaaGreatDoorP6
import Derived.Test.YtecghfcgahgfiaaGreatDoorP10
import Derived.Test.YtecghfcgahgfiaaGreatDoorP34
import Derived.Test.YtecghfcgahgfiaaGreatDoorP41
import Derived.Test.YtecghfcgahgfiaaGreatDoorP43
import Derived.Test.YtecghfcgahgfiaaGreatDoorP33
import Derived.Test.YtecghfcgahgfiaaGreatDoorP25
/- The law FnScript: running the first line of a script alone yields the first reply of the script. No condition beyond the row's own: the tables that strconv reads, and the errors that it hands out, hold what they hold at the start. -/
namespace Go.Proofs.YtecghfcgahgfiaaGreatDoor
open Go.ChangeShapes Go.WideShapes Go.ChangeAt Go.RowKit Go.Deep Go.Joins
open Go.ChangeMaps (open_string shut_string)

attribute [local go_sem ↓] Go.wp_at_zero Go.wp_at_succ
theorem tcellS {w : World} {b off : Nat} {l : List ByteArray} (hc : ∀ i (hi : i < l.length) j u, (strRow l[i])[j]? = some u → w.cell? ⟨b, off + i * 1 + j, none⟩ = some u) {k : Nat} (hk : k < l.length) :
    w.cell? ⟨b, off + k, none⟩ = some (.string l[k]) := by
  have := hc k hk 0 _ rfl
  simpa using this
theorem scrF_bad {d : DayC} {l : LogR} {t : ByteArray} {R : List ByteArray} (h : scrF d l t = (R, false)) : R = [] := by
  unfold scrF at h
  split at h
  · injection h with h1 h2
    cases h2
  · injection h with h1 h2
    exact h1.symm
set_option maxHeartbeats 8000000 in
set_option maxRecDepth 100000 in
theorem l_FnScript (A : Option Addr) (c : Nat) (bs : List Int) (w : World) (hA : Sl w 1 byteRow A bs) (hb : ∀ x ∈ bs, 0 ≤ x ∧ x ≤ 255) (_hl : bs.length ≤ maxLen) (hE : Env w) (hY : Syn w) :
    Calls Tryz.prog 4 #[.slice A bs.length c] w fun e' w' => e' = .returned (.bool true) ∧ ∃ g, w' = plus w g := by
  have HA := hid hA
  have HB := hid hb
  have HE := hid hE
  have HY := hid hY
  clear hA hb hE hY
  by_cases hbig : (65536 : Int) < (bs.length : Int)
  · go_enter Tryz.func4, Tryz.ntmps4
    go_wp2_with (go_at_call 6; refine (l_vBig _ _ _ _).mono ?_; (rintro e w' ⟨rfl, rfl⟩))
    go_ret
    exact ⟨rfl, by (repeat (first | with_reducible exact grew_refl _ | with_reducible assumption | with_reducible refine grew_split ?_ | with_reducible refine grew_mk ?_ | with_reducible refine grew_plus ?_ | with_reducible refine grew_alloc ?_ | with_reducible refine grew_drew ?_ | (with_reducible refine grew_set ?_ (by first | exact Nat.le_refl _ | omega | (simp [go_sem]; done) | (simp [go_sem]; omega)))))⟩
  have HC := hid (show Code0 w A bs from ⟨HA.out, HB.out, by omega⟩)
  clear HA HB
  go_enter Tryz.func4, Tryz.ntmps4
  go_wp2_with (go_at_call 6; refine (l_vBig _ _ _ _).mono ?_; (rintro e w' ⟨rfl, rfl⟩))
  refine (s_DrawRunScript A c bs _ HC.out HE.out).mono ?_
  rintro e W1 ⟨⟨v, l, t, rfl, hv8, hS, hl1, hl2, ht⟩, hg⟩
  have HG := hid hg
  have HE1 := hid (HE.out.grew hg)
  have HY1 := hid (HY.out.grew hg)
  have HV := hid (DayV.At.mk (v := v) hS (by unfold maxLen; omega))
  clear hS hg
  obtain ⟨R, o, hR⟩ : ∃ R o, scrF v.core l t = (R, o) := ⟨_, _, rfl⟩
  have hRl := scrF_len v.core l t
  rw [hR] at hRl
  simp only at hRl
  have HR := hid hR
  have e1 : (o != o) = false := by simp
  clear hR
  go_wp2_with fail
  refine (i_RunScript v l t _ (HV.out.grew (by (repeat (first | with_reducible exact grew_refl _ | with_reducible assumption | with_reducible refine grew_split ?_ | with_reducible refine grew_mk ?_ | with_reducible refine grew_plus ?_ | with_reducible refine grew_alloc ?_ | with_reducible refine grew_drew ?_ | (with_reducible refine grew_set ?_ (by first | exact Nat.le_refl _ | omega | (simp [go_sem]; done) | (simp [go_sem]; omega))))))) (by omega) (by omega) (by omega) (HE1.out.grew (by (repeat (first | with_reducible exact grew_refl _ | with_reducible assumption | with_reducible refine grew_split ?_ | with_reducible refine grew_mk ?_ | with_reducible refine grew_plus ?_ | with_reducible refine grew_alloc ?_ | with_reducible refine grew_drew ?_ | (with_reducible refine grew_set ?_ (by first | exact Nat.le_refl _ | omega | (simp [go_sem]; done) | (simp [go_sem]; omega))))))) (HY1.out.grew (by (repeat (first | with_reducible exact grew_refl _ | with_reducible assumption | with_reducible refine grew_split ?_ | with_reducible refine grew_mk ?_ | with_reducible refine grew_plus ?_ | with_reducible refine grew_alloc ?_ | with_reducible refine grew_drew ?_ | (with_reducible refine grew_set ?_ (by first | exact Nat.le_refl _ | omega | (simp [go_sem]; done) | (simp [go_sem]; omega)))))))).mono ?_
  rw [HR.out]
  rintro e w' ⟨⟨A1, c1, rfl, hO1⟩, g1, rfl⟩
  (try rw [plus_plus] at hO1)
  have O1 := hid hO1.sl
  clear hO1
  go_wp2_with fail
  refine (s_RunScript v l t _ (HV.out.grew (by (repeat (first | with_reducible exact grew_refl _ | with_reducible assumption | with_reducible refine grew_split ?_ | with_reducible refine grew_mk ?_ | with_reducible refine grew_plus ?_ | with_reducible refine grew_alloc ?_ | with_reducible refine grew_drew ?_ | (with_reducible refine grew_set ?_ (by first | exact Nat.le_refl _ | omega | (simp [go_sem]; done) | (simp [go_sem]; omega))))))) (by omega) (by omega) (by omega) (HE1.out.grew (by (repeat (first | with_reducible exact grew_refl _ | with_reducible assumption | with_reducible refine grew_split ?_ | with_reducible refine grew_mk ?_ | with_reducible refine grew_plus ?_ | with_reducible refine grew_alloc ?_ | with_reducible refine grew_drew ?_ | (with_reducible refine grew_set ?_ (by first | exact Nat.le_refl _ | omega | (simp [go_sem]; done) | (simp [go_sem]; omega)))))))).mono ?_
  rw [HR.out]
  rintro e w' ⟨⟨A2, c2, rfl, hO2⟩, g2, rfl⟩
  (try rw [plus_plus] at hO2)
  have O2 := hid hO2.sl
  clear hO2
  go_upto_region 8 with fail
  refine opq_wp (fun W2 => Blk W2 W1.heap.size 30 #[.int .i64 (v.core).minute, .int .i64 (v.core).state, .slice v.A (v.core).lines.length v.c, .int .i64 (v.core).line, .int .i64 (v.core).since, .int .i64 (v.core).cast, .int .i64 (v.core).fuel, .string (l).d, .string (l).p, .int .i64 (l).n] ∧ Sl W2 2 LineR.row v.A v.core.lines ∧ Sl W2 1 strRow A1 R ∧ Sl W2 1 strRow A2 R ∧ ∃ g, W2 = plus w g) ⟨blk_grew (blk_new rfl) (by (repeat (first | with_reducible exact grew_refl _ | with_reducible assumption | with_reducible refine grew_split ?_ | with_reducible refine grew_mk ?_ | with_reducible refine grew_plus ?_ | with_reducible refine grew_alloc ?_ | with_reducible refine grew_drew ?_ | (with_reducible refine grew_set ?_ (by first | exact Nat.le_refl _ | omega | (simp [go_sem]; done) | (simp [go_sem]; omega)))))), HV.out.1.grew (by (repeat (first | with_reducible exact grew_refl _ | with_reducible assumption | with_reducible refine grew_split ?_ | with_reducible refine grew_mk ?_ | with_reducible refine grew_plus ?_ | with_reducible refine grew_alloc ?_ | with_reducible refine grew_drew ?_ | (with_reducible refine grew_set ?_ (by first | exact Nat.le_refl _ | omega | (simp [go_sem]; done) | (simp [go_sem]; omega)))))), O1.out.grew (by (repeat (first | with_reducible exact grew_refl _ | with_reducible assumption | with_reducible refine grew_split ?_ | with_reducible refine grew_mk ?_ | with_reducible refine grew_plus ?_ | with_reducible refine grew_alloc ?_ | with_reducible refine grew_drew ?_ | (with_reducible refine grew_set ?_ (by first | exact Nat.le_refl _ | omega | (simp [go_sem]; done) | (simp [go_sem]; omega)))))), O2.out.grew (by (repeat (first | with_reducible exact grew_refl _ | with_reducible assumption | with_reducible refine grew_split ?_ | with_reducible refine grew_mk ?_ | with_reducible refine grew_plus ?_ | with_reducible refine grew_alloc ?_ | with_reducible refine grew_drew ?_ | (with_reducible refine grew_set ?_ (by first | exact Nat.le_refl _ | omega | (simp [go_sem]; done) | (simp [go_sem]; omega)))))), by have hg := HG.out; (repeat (first | with_reducible exact grew_refl _ | with_reducible assumption | with_reducible refine grew_split ?_ | with_reducible refine grew_mk ?_ | with_reducible refine grew_plus ?_ | with_reducible refine grew_alloc ?_ | with_reducible refine grew_drew ?_ | (with_reducible refine grew_set ?_ (by first | exact Nat.le_refl _ | omega | (simp [go_sem]; done) | (simp [go_sem]; omega)))))⟩ ?_
  clear O1 O2 HG HE1 HY1 HV e1
  rintro W2 ⟨hB, hS, h1, h2, hg⟩
  have HV := hid (DayV.At.mk (v := v) hS (by unfold maxLen; omega))
  have O1 := hid h1
  have O2 := hid h2
  have HG2 := hid hg
  have HE2 := hid (HE.out.grew hg)
  have HY2 := hid (HY.out.grew hg)
  have hlc := hB.lt
  (have hc0 := hB.cell 0; have hc1 := hB.cell 1; have hc2 := hB.cell 2; have hc3 := hB.cell 3; have hc4 := hB.cell 4; have hc5 := hB.cell 5; have hc6 := hB.cell 6; have hc7 := hB.cell 7; have hc8 := hB.cell 8; have hc9 := hB.cell 9; simp [go_sem] at hc0 hc1 hc2 hc3 hc4 hc5 hc6 hc7 hc8 hc9)
  have HBC := hid hB
  clear hB hS h1 h2 hg
  go_upto_block 0 with fail
  go_cut [9] (fun _ wx => ∃ g, wx = plus W2 g)
  case first =>
    go_wp2_with fail
    go_loopw [9] (fun i wr => ∃ k : Nat, k ≤ R.length ∧ i = .int .i64 k ∧ (∃ g, wr = plus W2 g)) (fun i _ => R.length - (intOf i).toNat)
    case atStart => exact ⟨0, Nat.zero_le _, rfl, _, plus_refl _⟩
    case round =>
      obtain ⟨k, hk, rfl, g, rfl⟩ := hrel
      by_cases hlt : k < R.length
      · obtain ⟨b, off, rfl, hb, hx⟩ := O1.out.at_ hlt
        obtain ⟨b', off', rfl, hb', hx'⟩ := O2.out.at_ hlt
        have hx0 := tcellS hx hlt
        have hy0 := tcellS hx' hlt
        have hkI : (k : Int) < (R.length : Int) := by omega
        have e2 : (R[k].toList != R[k].toList) = false := by simp
        clear hx hx'
        go_wp2_with fail
        (refine wp_region_calm (by kernel_rfl) (by kernel_rfl) ?_; (repeat' (first | go_big_quiet_step (fail) | (refine wpQuiet_step (fun K hK => ?_); go_simp; go_ite <;> go_simp <;> (first | (refine hK _ ?_; clear hK K) | (apply Exists.intro; refine ⟨fun _ => ?_, hK _ ?_⟩; (fail); clear hK K))))); all_goals (refine wpQuiet_nil ?_; intro _ hw'; obtain ⟨gq, hw''⟩ := hw'; subst hw''))
        go_wp2_with fail
        go_roundw
        case rel => exact ⟨k + 1, by omega, by go_num, by (repeat (first | with_reducible exact grew_refl _ | with_reducible assumption | with_reducible refine grew_split ?_ | with_reducible refine grew_mk ?_ | with_reducible refine grew_plus ?_ | with_reducible refine grew_alloc ?_ | with_reducible refine grew_drew ?_ | (with_reducible refine grew_set ?_ (by first | exact Nat.le_refl _ | omega | (simp [go_sem]; done) | (simp [go_sem]; omega)))))⟩
        case measure => simp [intOf]; omega
      · go_wp2_with fail
        go_meet
        exact ⟨_, rfl⟩
  case rest =>
    obtain ⟨g3, rfl⟩ := hcut
    obtain ⟨ws, hws⟩ : ∃ ws, splitV t 10 = ws := ⟨_, rfl⟩
    have HW := hid hws
    clear hws
    go_wp2_with fail
    refine (s_SplitString t _ (by omega)).mono ?_
    rw [HW.out]
    rintro e w' ⟨⟨A4, c4, rfl, hO4⟩, g4, rfl⟩
    (try rw [plus_plus] at hO4)
    have O4 := hid hO4.sl
    clear hO4
    cases o
    · have hR0 := scrF_bad HR.out
      subst hR0
      go_wp2_with fail
      go_ret
      have h := HG2.out
      exact ⟨rfl, by (repeat (first | with_reducible exact grew_refl _ | with_reducible assumption | with_reducible refine grew_split ?_ | with_reducible refine grew_mk ?_ | with_reducible refine grew_plus ?_ | with_reducible refine grew_alloc ?_ | with_reducible refine grew_drew ?_ | (with_reducible refine grew_set ?_ (by first | exact Nat.le_refl _ | omega | (simp [go_sem]; done) | (simp [go_sem]; omega)))))⟩
    · by_cases h2 : ws.length < 2
      · have h2I : (ws.length : Int) < 2 := by omega
        go_wp2_with fail
        go_ret
        have h := HG2.out
        exact ⟨rfl, by (repeat (first | with_reducible exact grew_refl _ | with_reducible assumption | with_reducible refine grew_split ?_ | with_reducible refine grew_mk ?_ | with_reducible refine grew_plus ?_ | with_reducible refine grew_alloc ?_ | with_reducible refine grew_drew ?_ | (with_reducible refine grew_set ?_ (by first | exact Nat.le_refl _ | omega | (simp [go_sem]; done) | (simp [go_sem]; omega)))))⟩
      · obtain ⟨x, r, hs, hx, hz⟩ := first_piece t 10
        rw [HW.out] at hs
        obtain ⟨r0, T, hT, hsx⟩ := script_law HR.out (by rw [HW.out]; exact hs) hx hz
        subst hs hT
        have HSX := hid hsx
        have hi0 : (0 : Int) < (r.length : Int) + 1 := by omega
        have hi1 : (0 : Int) < (T.length : Int) + 1 := by omega
        have h2r : 0 < r.length := by simp only [List.length_cons] at h2; omega
        have h2I : ¬ ((r.length : Int) + 1 < 2) := by omega
        have h2J : ¬ (((r.length + 1 : Nat) : Int) < 2) := by omega
        have h2K : (2 : Int) ≤ (r.length : Int) + 1 := by omega
        go_upto_region 16 with fail
        refine opq_wp (fun W5 => Blk W5 W1.heap.size 30 #[.int .i64 (v.core).minute, .int .i64 (v.core).state, .slice v.A (v.core).lines.length v.c, .int .i64 (v.core).line, .int .i64 (v.core).since, .int .i64 (v.core).cast, .int .i64 (v.core).fuel, .string (l).d, .string (l).p, .int .i64 (l).n] ∧ Sl W5 1 strRow A4 (x :: r) ∧ Sl W5 1 strRow A1 (r0 :: T) ∧ ∃ g, W5 = plus W2 g) ⟨blk_grew HBC.out (by (repeat (first | with_reducible exact grew_refl _ | with_reducible assumption | with_reducible refine grew_split ?_ | with_reducible refine grew_mk ?_ | with_reducible refine grew_plus ?_ | with_reducible refine grew_alloc ?_ | with_reducible refine grew_drew ?_ | (with_reducible refine grew_set ?_ (by first | exact Nat.le_refl _ | omega | (simp [go_sem]; done) | (simp [go_sem]; omega)))))), O4.out.grew (by (repeat (first | with_reducible exact grew_refl _ | with_reducible assumption | with_reducible refine grew_split ?_ | with_reducible refine grew_mk ?_ | with_reducible refine grew_plus ?_ | with_reducible refine grew_alloc ?_ | with_reducible refine grew_drew ?_ | (with_reducible refine grew_set ?_ (by first | exact Nat.le_refl _ | omega | (simp [go_sem]; done) | (simp [go_sem]; omega)))))), O1.out.grew (by (repeat (first | with_reducible exact grew_refl _ | with_reducible assumption | with_reducible refine grew_split ?_ | with_reducible refine grew_mk ?_ | with_reducible refine grew_plus ?_ | with_reducible refine grew_alloc ?_ | with_reducible refine grew_drew ?_ | (with_reducible refine grew_set ?_ (by first | exact Nat.le_refl _ | omega | (simp [go_sem]; done) | (simp [go_sem]; omega)))))), by (repeat (first | with_reducible exact grew_refl _ | with_reducible assumption | with_reducible refine grew_split ?_ | with_reducible refine grew_mk ?_ | with_reducible refine grew_plus ?_ | with_reducible refine grew_alloc ?_ | with_reducible refine grew_drew ?_ | (with_reducible refine grew_set ?_ (by first | exact Nat.le_refl _ | omega | (simp [go_sem]; done) | (simp [go_sem]; omega)))))⟩ ?_
        clear O4 O1 O2 hlc hc0 hc1 hc2 hc3 hc4 hc5 hc6 hc7 hc8 hc9 HBC
        rintro W5 ⟨hB, h4, h1, hg⟩
        have HV5 := hid (HV.out.grew hg)
        have HE5 := hid (HE2.out.grew hg)
        have HY5 := hid (HY2.out.grew hg)
        have HG5 := hid (grew_two' HG2.out hg)
        have O1 := hid h1
        clear HV HE2 HY2 HG2
        have hlc := hB.lt
        (have hc0 := hB.cell 0; have hc1 := hB.cell 1; have hc2 := hB.cell 2; have hc3 := hB.cell 3; have hc4 := hB.cell 4; have hc5 := hB.cell 5; have hc6 := hB.cell 6; have hc7 := hB.cell 7; have hc8 := hB.cell 8; have hc9 := hB.cell 9; simp [go_sem] at hc0 hc1 hc2 hc3 hc4 hc5 hc6 hc7 hc8 hc9)
        obtain ⟨b4, off4, rfl, hb4, hx4⟩ := h4.at_ (show 0 < (x :: r).length by simp)
        have hx0 := tcellS hx4 (show 0 < (x :: r).length by simp)
        simp only [List.getElem_cons_zero, Nat.add_zero] at hx0
        clear hB h4 h1 hg hx4
        go_cut [12, 13] (fun a b wx => ∃ (A3 : Option Addr) (c3 : Nat), a = .slice A3 1 c3 ∧ b = .bool true ∧ Sl wx 1 strRow A3 [r0] ∧ ∃ g, wx = plus W5 g)
        case first =>
          go_region_with (first | (go_at_call 15; refine (i_RunScript v l x _ (HV5.out.grew (by (repeat (first | with_reducible exact grew_refl _ | with_reducible assumption | with_reducible refine grew_split ?_ | with_reducible refine grew_mk ?_ | with_reducible refine grew_plus ?_ | with_reducible refine grew_alloc ?_ | with_reducible refine grew_drew ?_ | (with_reducible refine grew_set ?_ (by first | exact Nat.le_refl _ | omega | (simp [go_sem]; done) | (simp [go_sem]; omega))))))) (by omega) (by omega) (by omega) (HE5.out.grew (by (repeat (first | with_reducible exact grew_refl _ | with_reducible assumption | with_reducible refine grew_split ?_ | with_reducible refine grew_mk ?_ | with_reducible refine grew_plus ?_ | with_reducible refine grew_alloc ?_ | with_reducible refine grew_drew ?_ | (with_reducible refine grew_set ?_ (by first | exact Nat.le_refl _ | omega | (simp [go_sem]; done) | (simp [go_sem]; omega))))))) (HY5.out.grew (by (repeat (first | with_reducible exact grew_refl _ | with_reducible assumption | with_reducible refine grew_split ?_ | with_reducible refine grew_mk ?_ | with_reducible refine grew_plus ?_ | with_reducible refine grew_alloc ?_ | with_reducible refine grew_drew ?_ | (with_reducible refine grew_set ?_ (by first | exact Nat.le_refl _ | omega | (simp [go_sem]; done) | (simp [go_sem]; omega)))))))).mono ?_; rw [HSX.out]; rintro e w' ⟨⟨A3, c3, rfl, hO3⟩, g5, rfl⟩; (try rw [plus_plus] at hO3); have O3 := hid hO3.sl; clear hO3) | fail)
          all_goals
            go_wp2_with fail
            go_meet
            exact ⟨A3, c3, by first | rfl | simp, rfl, O3.out.grew (by (repeat (first | with_reducible exact grew_refl _ | with_reducible assumption | with_reducible refine grew_split ?_ | with_reducible refine grew_mk ?_ | with_reducible refine grew_plus ?_ | with_reducible refine grew_alloc ?_ | with_reducible refine grew_drew ?_ | (with_reducible refine grew_set ?_ (by first | exact Nat.le_refl _ | omega | (simp [go_sem]; done) | (simp [go_sem]; omega)))))), by (repeat (first | with_reducible exact grew_refl _ | with_reducible assumption | with_reducible refine grew_split ?_ | with_reducible refine grew_mk ?_ | with_reducible refine grew_plus ?_ | with_reducible refine grew_alloc ?_ | with_reducible refine grew_drew ?_ | (with_reducible refine grew_set ?_ (by first | exact Nat.le_refl _ | omega | (simp [go_sem]; done) | (simp [go_sem]; omega)))))⟩
        case rest =>
          obtain ⟨A3, c3, rfl, rfl, h3, g6, rfl⟩ := hcut
          have O3 := hid h3
          clear h3 hx0
          obtain ⟨tx, so, hf⟩ : ∃ tx so, fmtF v.core l = (tx, so) := ⟨_, _, rfl⟩
          have HF := hid hf
          clear hf
          go_wp2_with fail
          refine (i_FormatConsole v l _ (HV5.out.grew (by (repeat (first | with_reducible exact grew_refl _ | with_reducible assumption | with_reducible refine grew_split ?_ | with_reducible refine grew_mk ?_ | with_reducible refine grew_plus ?_ | with_reducible refine grew_alloc ?_ | with_reducible refine grew_drew ?_ | (with_reducible refine grew_set ?_ (by first | exact Nat.le_refl _ | omega | (simp [go_sem]; done) | (simp [go_sem]; omega))))))) (by omega) (by omega) (HE5.out.grew (by (repeat (first | with_reducible exact grew_refl _ | with_reducible assumption | with_reducible refine grew_split ?_ | with_reducible refine grew_mk ?_ | with_reducible refine grew_plus ?_ | with_reducible refine grew_alloc ?_ | with_reducible refine grew_drew ?_ | (with_reducible refine grew_set ?_ (by first | exact Nat.le_refl _ | omega | (simp [go_sem]; done) | (simp [go_sem]; omega)))))))).mono ?_
          rw [HF.out]
          (rintro e w' ⟨rfl, gx, rfl⟩)
          go_wp2_with fail
          refine (s_FormatConsole v l _ (HV5.out.grew (by (repeat (first | with_reducible exact grew_refl _ | with_reducible assumption | with_reducible refine grew_split ?_ | with_reducible refine grew_mk ?_ | with_reducible refine grew_plus ?_ | with_reducible refine grew_alloc ?_ | with_reducible refine grew_drew ?_ | (with_reducible refine grew_set ?_ (by first | exact Nat.le_refl _ | omega | (simp [go_sem]; done) | (simp [go_sem]; omega))))))) (by omega) (by omega) (HE5.out.grew (by (repeat (first | with_reducible exact grew_refl _ | with_reducible assumption | with_reducible refine grew_split ?_ | with_reducible refine grew_mk ?_ | with_reducible refine grew_plus ?_ | with_reducible refine grew_alloc ?_ | with_reducible refine grew_drew ?_ | (with_reducible refine grew_set ?_ (by first | exact Nat.le_refl _ | omega | (simp [go_sem]; done) | (simp [go_sem]; omega)))))))).mono ?_
          rw [HF.out]
          (rintro e w' ⟨rfl, gx, rfl⟩)
          go_upto_region 19 with fail
          refine opq_wp (fun W6 => Sl W6 1 strRow A3 [r0] ∧ Sl W6 1 strRow A1 (r0 :: T) ∧ ∃ g, W6 = plus w g) ⟨O3.out.grew (by (repeat (first | with_reducible exact grew_refl _ | with_reducible assumption | with_reducible refine grew_split ?_ | with_reducible refine grew_mk ?_ | with_reducible refine grew_plus ?_ | with_reducible refine grew_alloc ?_ | with_reducible refine grew_drew ?_ | (with_reducible refine grew_set ?_ (by first | exact Nat.le_refl _ | omega | (simp [go_sem]; done) | (simp [go_sem]; omega)))))), O1.out.grew (by (repeat (first | with_reducible exact grew_refl _ | with_reducible assumption | with_reducible refine grew_split ?_ | with_reducible refine grew_mk ?_ | with_reducible refine grew_plus ?_ | with_reducible refine grew_alloc ?_ | with_reducible refine grew_drew ?_ | (with_reducible refine grew_set ?_ (by first | exact Nat.le_refl _ | omega | (simp [go_sem]; done) | (simp [go_sem]; omega)))))), by have h := HG5.out; (repeat (first | with_reducible exact grew_refl _ | with_reducible assumption | with_reducible refine grew_split ?_ | with_reducible refine grew_mk ?_ | with_reducible refine grew_plus ?_ | with_reducible refine grew_alloc ?_ | with_reducible refine grew_drew ?_ | (with_reducible refine grew_set ?_ (by first | exact Nat.le_refl _ | omega | (simp [go_sem]; done) | (simp [go_sem]; omega)))))⟩ ?_
          clear O3 O1 HV5 HE5 HY5 HG5 hlc hc0 hc1 hc2 hc3 hc4 hc5 hc6 hc7 hc8 hc9
          rintro W6 ⟨h3, h1, hg⟩
          have HG6 := hid hg
          obtain ⟨b3, off3, rfl, hb3, hx3⟩ := h3.at_ (show 0 < [r0].length by simp)
          have hz0 := tcellS hx3 (show 0 < [r0].length by simp)
          obtain ⟨b1, off1, rfl, hb1, hx1⟩ := h1.at_ (show 0 < (r0 :: T).length by simp)
          have hy0 := tcellS hx1 (show 0 < (r0 :: T).length by simp)
          simp only [List.getElem_cons_zero, Nat.add_zero] at hz0 hy0
          clear h3 h1 hg hx3 hx1
          have e3 : (r0.toList == r0.toList) = true := by simp
          have e4 : (tx.toList == tx.toList) = true := by simp
          have e5 : (so == so) = true := by simp
          (refine wp_region_calm (by kernel_rfl) (by kernel_rfl) ?_; (repeat' (first | go_big_quiet_step (fail) | (refine wpQuiet_step (fun K hK => ?_); go_simp; go_ite <;> go_simp <;> (first | (refine hK _ ?_; clear hK K) | (apply Exists.intro; refine ⟨fun _ => ?_, hK _ ?_⟩; (fail); clear hK K))))); all_goals (refine wpQuiet_nil ?_; intro _ hw'; obtain ⟨gq, hw''⟩ := hw'; subst hw''))
          go_wp2_with fail
          go_ret
          have h := HG6.out
          exact ⟨rfl, by (repeat (first | with_reducible exact grew_refl _ | with_reducible assumption | with_reducible refine grew_split ?_ | with_reducible refine grew_mk ?_ | with_reducible refine grew_plus ?_ | with_reducible refine grew_alloc ?_ | with_reducible refine grew_drew ?_ | (with_reducible refine grew_set ?_ (by first | exact Nat.le_refl _ | omega | (simp [go_sem]; done) | (simp [go_sem]; omega)))))⟩
theorem fnScript_met (os : Os) : laidMet Tryz.prog Rows.fnScriptRow.laid ((laidWorld os).forCall (fun _ _ => 0) ⟨#[], #[.slice none 0 0], []⟩).memory :=
  laidMet_of_run' 8 (by kernel_rfl) (by kernel_rfl)
theorem fnScript_reads (os : Os) {H : Type} (enc : TypeId × Value → H) : ∃ places, DataW.whole enc Tryz.prog ((laidWorld os).forCall (fun _ _ => 0) ⟨#[], #[.slice none 0 0], []⟩).memory Tryz.f4.params.toList Rows.fnScriptSpec.vars false (#[.slice none 0 0] : Array Value).toList 8 = some ([.nil], [], places) :=
  ⟨[], by kernel_rfl⟩
set_option maxRecDepth 100000 in
theorem fnScript_contract (H : Type) (enc : TypeId × Value → H) (W : World) (base : Nat) (args : Array Value) (ds gs : List (DataW H)) (before : List MemPlace)
    (hval0 : ∀ (j : Nat) t v, Tryz.f4.params[j]? = some t → args[j]? = some v → Value.okWide Tryz.prog W .any base t v)
    (hW : DataW.Whole enc Tryz.prog Tryz.f4.params.toList Rows.fnScriptSpec.vars false W args.toList ds gs before) (hL : laidMetH Tryz.prog Rows.fnScriptRow.laid W) (_hsh : W.ShapedOpen Tryz.prog) :
    Calls Tryz.prog 4 args W fun e W' => ∃ v, e = .returned v ∧ Rows.fnScriptSpec.post enc Tryz.prog Tryz.f4 false true false false W args v W' := by
  have hT : Tab W := tab_of hL
  have hval := hval0
  have hW' := hW
  obtain ⟨p, q, hA0, hV, rfl, hfz, hnd⟩ := hW
  have hA : DataW.TrodAll enc Tryz.prog W 0 (fun _ => true) true Tryz.f4.params.toList args.toList ds p := hA0
  rw [Tryz.params4] at hA hval
  obtain ⟨v0, vs0, d0, ds0, p0, q0, hargs, rfl, rfl, h0, r0⟩ := trodAll_cons hA
  obtain ⟨rfl, rfl, rfl⟩ := trodAll_nil r0
  obtain rfl : args = #[v0] := by cases args; simp_all
  obtain ⟨rfl, rfl⟩ := trodVars_none hV
  have k0 := h0
  have lt0 : ∀ x ∈ p0, x.block < W.heap.size := by obtain ⟨m, hm⟩ := k0; exact DataW.trod_lt m _ _ _ hm
  obtain ⟨A, c, l, rfl, hS, hb, hl⟩ := open_code (hval 0 22 v0 rfl rfl) h0
  clear hA0 hval0
  refine (l_FnScript A c l W hS hb hl (env_of hT _hsh) (syn_of hL)).mono fun e W' ⟨he, hg⟩ => ?_
  have bel := below_of_grew hg
  subst he
  exact ⟨_, rfl, _, _, _, [], _, [], hW', trodAll_mk1 (shut_bool Tryz.underlying4 _), (trodAll_cons_mk (Below.trod laid_out (by kernel_rfl) (of_decide_eq_true (by kernel_rfl)) k0 bel lt0) trodAll_mk0), rfl, bel.frame _, fun h => by cases h⟩
set_option maxRecDepth 100000 in
theorem fnScript_lifted (os : Os) (started : os.Started) (H : Type) (enc : TypeId × Value → H) (F : Stop.Interp) :
    ReturnsInHanded {} Tryz.checked os 4 .any ((OpenSpec.ofChange Rows.fnScriptSpec).preRow enc Tryz.prog Tryz.f4 Rows.fnScriptRow.domain false Rows.fnScriptRow.laid) (((OpenSpec.ofChange Rows.fnScriptSpec).at F).post enc Tryz.prog Tryz.f4 false true false false) := by
  obtain ⟨places, hx⟩ := fnScript_reads os enc
  refine returnsInHanded_of_row (C := Tryz.checked) (s := OpenSpec.ofChange Rows.fnScriptSpec) own_knob started (by kernel_rfl) Tryz.func4
    (witness_row_at (enc := enc) (C := Tryz.checked) false (laidWorld os) #[.slice none 0 0] rfl (by kernel_rfl) (by kernel_rfl) (by kernel_rfl)
      (OpenSpec.preRow_of_cond 8 hx (by kernel_rfl) (fun k hk => by cases hk) (by kernel_rfl) (fnScript_met os))) ?_
  intro W base args ds gs before hval hW _ _ _ hL hsh _
  exact fnScript_contract H enc W base args ds gs before hval hW hL hsh
theorem fnScript_said : Rows.FnScriptSaid :=
  OpenClaim.holds_of_cond 4 Tryz.f4 rfl rfl rfl rfl rfl rfl rfl ⟨rfl, rfl, rfl, rfl, rfl⟩ rfl rfl rfl rfl rfl (by kernel_rfl) Tryz.func4 (by kernel_rfl)
    (of_decide_eq_true (by kernel_rfl)) (by unfold Func.isWrapper; first | (rw [if_pos (by decide +kernel)]; kernel_rfl) | (rw [if_neg (by decide +kernel)]; exact ⟨rfl, rfl⟩))
    (fun os started H enc _ F => by rw [OpenClaim.pre_eq_preRow]; exact fnScript_lifted os started H enc F)
theorem fnScript_plain (f : FuncId) (fn : Func) (hf : Tryz.pinned.checked.prog.funcNamed Rows.fnScriptRow.func = some f) (hfn : Tryz.pinned.checked.prog.funcs[f]? = some fn) :
    ∀ (j : Nat) t, fn.params[j]? = some t → Tryz.pinned.checked.prog.wantsStandIn t = false := by
  obtain rfl : f = 4 := Option.some.inj ((show Tryz.prog.funcNamed Rows.fnScriptRow.func = some 4 by kernel_rfl).symm.trans hf) |>.symm
  obtain rfl : fn = Tryz.f4 := (Option.some.inj (Tryz.func4.symm.trans hfn)).symm
  intro j t ht
  have h : ∀ t ∈ Tryz.f4.params.toList, Tryz.prog.wantsStandIn t = false := by rw [Tryz.params4]; intro t ht; simp at ht; rcases ht with rfl <;> kernel_rfl
  exact h t (by simpa using Array.mem_of_getElem? ht)
theorem fnScript_holds : Rows.FnScriptCardSaid :=
  Claim7.holds_tied_plain_at .later [] _ _ _ _ fnScript_said (fun _ h => by cases h) (by kernel_rfl) (fun _ h => by cases h) fnScript_row_tie rfl ⟨rfl, rfl⟩ (by kernel_rfl) rfl (fun f fn hf hfn => ⟨by kernel_rfl, fnScript_plain f fn hf hfn⟩) (by kernel_rfl)
end Go.Proofs.YtecghfcgahgfiaaGreatDoor
