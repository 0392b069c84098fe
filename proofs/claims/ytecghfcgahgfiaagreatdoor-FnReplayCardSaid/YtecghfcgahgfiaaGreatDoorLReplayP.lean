import Derived.Test.YtecghfcgahgfiaaGreatDoorP6
import Derived.Test.YtecghfcgahgfiaaGreatDoorP10
import Derived.Test.YtecghfcgahgfiaaGreatDoorP34
import Derived.Test.YtecghfcgahgfiaaGreatDoorP41
import Derived.Test.YtecghfcgahgfiaaGreatDoorP42
import Derived.Test.YtecghfcgahgfiaaGreatDoorP30
import Derived.Test.YtecghfcgahgfiaaGreatDoorP31
import Derived.Test.YtecghfcgahgfiaaGreatDoorP29
/- The law FnReplay: the log of a console, and every recovered prefix of it, replays without a difference. No condition beyond the row's own: the tables that strconv reads, and the errors that it hands out, hold what they hold at the start. -/
namespace Go.Proofs.YtecghfcgahgfiaaGreatDoor
open Go.ChangeShapes Go.WideShapes Go.ChangeAt Go.RowKit Go.Deep Go.Joins
open Go.ChangeMaps (open_string shut_string)

attribute [local go_sem ↓] Go.wp_at_zero Go.wp_at_succ
theorem tcellR {w : World} {b off : Nat} {l : List ByteArray} (hc : ∀ i (hi : i < l.length) j u, (strRow l[i])[j]? = some u → w.cell? ⟨b, off + i * 1 + j, none⟩ = some u) {k : Nat} (hk : k < l.length) :
    w.cell? ⟨b, off + k, none⟩ = some (.string l[k]) := by
  have := hc k hk 0 _ rfl
  simpa using this
set_option maxHeartbeats 8000000 in
set_option maxRecDepth 100000 in
theorem l_FnReplay (A : Option Addr) (c : Nat) (bs : List Int) (w : World) (hA : Sl w 1 byteRow A bs) (hb : ∀ x ∈ bs, 0 ≤ x ∧ x ≤ 255) (_hl : bs.length ≤ maxLen) (hE : Env w) (hY : Syn w) :
    Calls Tryz.prog 5 #[.slice A bs.length c] w fun e' w' => e' = .returned (.bool true) ∧ ∃ g, w' = plus w g := by
  have HA := hid hA
  have HB := hid hb
  have HE := hid hE
  have HY := hid hY
  clear hA hb hE hY
  by_cases hbig : (65536 : Int) < (bs.length : Int)
  · go_enter Tryz.func5, Tryz.ntmps5
    go_wp2_with (go_at_call 6; refine (l_vBig _ _ _ _).mono ?_; (rintro e w' ⟨rfl, rfl⟩))
    go_ret
    exact ⟨rfl, by (repeat (first | with_reducible exact grew_refl _ | with_reducible assumption | with_reducible refine grew_split ?_ | with_reducible refine grew_mk ?_ | with_reducible refine grew_plus ?_ | with_reducible refine grew_alloc ?_ | with_reducible refine grew_drew ?_ | (with_reducible refine grew_set ?_ (by first | exact Nat.le_refl _ | omega | (simp [go_sem]; done) | (simp [go_sem]; omega)))))⟩
  have HC := hid (show Code0 w A bs from ⟨HA.out, HB.out, by omega⟩)
  clear HA HB
  go_enter Tryz.func5, Tryz.ntmps5
  go_wp2_with (go_at_call 6; refine (l_vBig _ _ _ _).mono ?_; (rintro e w' ⟨rfl, rfl⟩))
  refine (s_DrawReplayLog A c bs _ HC.out HE.out).mono ?_
  rintro e W1 ⟨⟨B, d, ms, fu, l, rfl, hml, hS, hl1, hl2⟩, hg⟩
  have HG := hid hg
  have HE1 := hid (HE.out.grew hg)
  have HY1 := hid (HY.out.grew hg)
  have HC1 := hid (HC.out.grewK hg)
  have HS := hid hS
  clear hS hg
  obtain ⟨n, o, hn⟩ : ∃ n o, replF ms fu l = (n, o) := ⟨_, _, rfl⟩
  have HN := hid hn
  have e1 : (n != n) = false := by simp
  have e2 : (o != o) = false := by simp
  clear hn
  go_wp2_with fail
  refine (i_ReplayLog ms B d fu l _ (HS.out.grew (by (repeat (first | with_reducible exact grew_refl _ | with_reducible assumption | with_reducible refine grew_split ?_ | with_reducible refine grew_mk ?_ | with_reducible refine grew_plus ?_ | with_reducible refine grew_alloc ?_ | with_reducible refine grew_drew ?_ | (with_reducible refine grew_set ?_ (by first | exact Nat.le_refl _ | omega | (simp [go_sem]; done) | (simp [go_sem]; omega))))))) (by omega) (by omega) (by omega) (HE1.out.grew (by (repeat (first | with_reducible exact grew_refl _ | with_reducible assumption | with_reducible refine grew_split ?_ | with_reducible refine grew_mk ?_ | with_reducible refine grew_plus ?_ | with_reducible refine grew_alloc ?_ | with_reducible refine grew_drew ?_ | (with_reducible refine grew_set ?_ (by first | exact Nat.le_refl _ | omega | (simp [go_sem]; done) | (simp [go_sem]; omega))))))) (HY1.out.grew (by (repeat (first | with_reducible exact grew_refl _ | with_reducible assumption | with_reducible refine grew_split ?_ | with_reducible refine grew_mk ?_ | with_reducible refine grew_plus ?_ | with_reducible refine grew_alloc ?_ | with_reducible refine grew_drew ?_ | (with_reducible refine grew_set ?_ (by first | exact Nat.le_refl _ | omega | (simp [go_sem]; done) | (simp [go_sem]; omega)))))))).mono ?_
  rw [HN.out]
  (rintro e w' ⟨rfl, gx, rfl⟩)
  go_wp2_with fail
  refine (s_ReplayLog ms B d fu l _ (HS.out.grew (by (repeat (first | with_reducible exact grew_refl _ | with_reducible assumption | with_reducible refine grew_split ?_ | with_reducible refine grew_mk ?_ | with_reducible refine grew_plus ?_ | with_reducible refine grew_alloc ?_ | with_reducible refine grew_drew ?_ | (with_reducible refine grew_set ?_ (by first | exact Nat.le_refl _ | omega | (simp [go_sem]; done) | (simp [go_sem]; omega))))))) (by omega) (by omega) (by omega) (HE1.out.grew (by (repeat (first | with_reducible exact grew_refl _ | with_reducible assumption | with_reducible refine grew_split ?_ | with_reducible refine grew_mk ?_ | with_reducible refine grew_plus ?_ | with_reducible refine grew_alloc ?_ | with_reducible refine grew_drew ?_ | (with_reducible refine grew_set ?_ (by first | exact Nat.le_refl _ | omega | (simp [go_sem]; done) | (simp [go_sem]; omega)))))))).mono ?_
  rw [HN.out]
  (rintro e w' ⟨rfl, gx, rfl⟩)
  go_wp2_with fail
  refine (s_DrawRunScript A c bs _ (HC1.out.grewK (by (repeat (first | with_reducible exact grew_refl _ | with_reducible assumption | with_reducible refine grew_split ?_ | with_reducible refine grew_mk ?_ | with_reducible refine grew_plus ?_ | with_reducible refine grew_alloc ?_ | with_reducible refine grew_drew ?_ | (with_reducible refine grew_set ?_ (by first | exact Nat.le_refl _ | omega | (simp [go_sem]; done) | (simp [go_sem]; omega))))))) (HE1.out.grew (by (repeat (first | with_reducible exact grew_refl _ | with_reducible assumption | with_reducible refine grew_split ?_ | with_reducible refine grew_mk ?_ | with_reducible refine grew_plus ?_ | with_reducible refine grew_alloc ?_ | with_reducible refine grew_drew ?_ | (with_reducible refine grew_set ?_ (by first | exact Nat.le_refl _ | omega | (simp [go_sem]; done) | (simp [go_sem]; omega)))))))).mono ?_
  rintro e W3 ⟨⟨v2, l2, t, rfl, -, -, -, -, ht⟩, hg3⟩
  have hg13 : ∃ g, W3 = plus W1 g := grew_two' (by (repeat (first | with_reducible exact grew_refl _ | with_reducible assumption | with_reducible refine grew_split ?_ | with_reducible refine grew_mk ?_ | with_reducible refine grew_plus ?_ | with_reducible refine grew_alloc ?_ | with_reducible refine grew_drew ?_ | (with_reducible refine grew_set ?_ (by first | exact Nat.le_refl _ | omega | (simp [go_sem]; done) | (simp [go_sem]; omega)))))) hg3
  have HS3 := hid (HS.out.grew hg13)
  have HE3 := hid (HE1.out.grew hg13)
  have HY3 := hid (HY1.out.grew hg13)
  have HG3 := hid (grew_two' HG.out hg13)
  clear hg3 hg13 HS HE1 HY1 HC1 HG HN
  obtain ⟨mk, hmk⟩ : ∃ b, (newC ms fu).ok = b := ⟨_, rfl⟩
  have HMK := hid hmk
  obtain ⟨N, hNN⟩ : ∃ N, newF ms fu = N := ⟨_, rfl⟩
  have hn16 : N.lines.length ≤ 16 := by
    rw [← hNN]
    unfold newF
    split
    · simp only [newC, List.length_map]; exact hml
    · exact Nat.zero_le _
  have HNN := hid hNN
  clear hNN
  have e3 : (mk != mk) = false := by simp
  clear hmk
  go_wp2_with fail
  refine (i_NewConsole ms B d fu _ (HS3.out.grew (by (repeat (first | with_reducible exact grew_refl _ | with_reducible assumption | with_reducible refine grew_split ?_ | with_reducible refine grew_mk ?_ | with_reducible refine grew_plus ?_ | with_reducible refine grew_alloc ?_ | with_reducible refine grew_drew ?_ | (with_reducible refine grew_set ?_ (by first | exact Nat.le_refl _ | omega | (simp [go_sem]; done) | (simp [go_sem]; omega))))))) (by omega)).mono ?_
  rw [HMK.out, HNN.out]
  rintro e w' ⟨⟨A1, c1, rfl, hO1⟩, g1, rfl⟩
  (try rw [plus_plus] at hO1)
  have O1 := hid hO1
  clear hO1
  go_wp2_with fail
  refine (s_NewConsole ms B d fu _ (HS3.out.grew (by (repeat (first | with_reducible exact grew_refl _ | with_reducible assumption | with_reducible refine grew_split ?_ | with_reducible refine grew_mk ?_ | with_reducible refine grew_plus ?_ | with_reducible refine grew_alloc ?_ | with_reducible refine grew_drew ?_ | (with_reducible refine grew_set ?_ (by first | exact Nat.le_refl _ | omega | (simp [go_sem]; done) | (simp [go_sem]; omega))))))) (by omega)).mono ?_
  rw [HMK.out, HNN.out]
  rintro e w' ⟨⟨A2, c2, rfl, hO2⟩, g2, rfl⟩
  (try rw [plus_plus] at hO2)
  have O2 := hid hO2
  clear hO2
  go_upto_region 11 with fail
  generalize hb12 : W3.heap.size + 1 + g1.objs.size = b12
  generalize hb14 : b12 + 1 + g2.objs.size = b14
  have hw12 : W3.heap.size ≤ b12 := by omega
  refine opq_wp (fun W4 => Blk W4 b12 30 #[.int .i64 (N).minute, .int .i64 (N).state, .slice A1 (N).lines.length c1, .int .i64 (N).line, .int .i64 (N).since, .int .i64 (N).cast, .int .i64 (N).fuel, .string (zLog).d, .string (zLog).p, .int .i64 (zLog).n] ∧ Blk W4 b14 30 #[.int .i64 (N).minute, .int .i64 (N).state, .slice A2 (N).lines.length c2, .int .i64 (N).line, .int .i64 (N).since, .int .i64 (N).cast, .int .i64 (N).fuel, .string (zLog).d, .string (zLog).p, .int .i64 (zLog).n] ∧ OwnF 0 80 2 LineR.row W4 A1 N.lines ∧ Sl W4 2 LineR.row A2 N.lines ∧ ∃ g, W4 = plus W3 g) ⟨?_, blk_new (by subst hb14 hb12; simp [go_sem]), (OwnF.less O1.out (Nat.zero_le _)).grew (by (repeat (first | with_reducible exact grew_refl _ | with_reducible assumption | with_reducible refine grew_split ?_ | with_reducible refine grew_mk ?_ | with_reducible refine grew_plus ?_ | with_reducible refine grew_alloc ?_ | with_reducible refine grew_drew ?_ | (with_reducible refine grew_set ?_ (by first | exact Nat.le_refl _ | omega | (simp [go_sem]; done) | (simp [go_sem]; omega)))))), O2.out.sl.grew (by (repeat (first | with_reducible exact grew_refl _ | with_reducible assumption | with_reducible refine grew_split ?_ | with_reducible refine grew_mk ?_ | with_reducible refine grew_plus ?_ | with_reducible refine grew_alloc ?_ | with_reducible refine grew_drew ?_ | (with_reducible refine grew_set ?_ (by first | exact Nat.le_refl _ | omega | (simp [go_sem]; done) | (simp [go_sem]; omega)))))), by (repeat (first | with_reducible exact grew_refl _ | with_reducible assumption | with_reducible refine grew_split ?_ | with_reducible refine grew_mk ?_ | with_reducible refine grew_plus ?_ | with_reducible refine grew_alloc ?_ | with_reducible refine grew_drew ?_ | (with_reducible refine grew_set ?_ (by first | exact Nat.le_refl _ | omega | (simp [go_sem]; done) | (simp [go_sem]; omega)))))⟩ ?_
  · exact blk_grew (Blk.plus (blk_new (w := plus (W3.alloc _) g1) (by subst hb12; simp [go_sem])) g2) (grew_alloc (grew_refl _))
  clear O1 O2 hb12 hb14
  rintro W4 ⟨hB12, hB14, hO1, hS2, hg4⟩
  obtain ⟨Z, hZ⟩ : ∃ Z, zLog = Z := ⟨_, rfl⟩
  rw [hZ] at hB12 hB14
  have HZ := hid hZ
  clear hZ
  have HV1 := hid (DayV.At.mk (v := ⟨N, A1, c1⟩) hO1.sl (by unfold maxLen; simp only; omega))
  have HV2 := hid (DayV.At.mk (v := ⟨N, A2, c2⟩) hS2 (by unfold maxLen; simp only; omega))
  have HB12 := hid hB12
  have HO1 := hid hO1
  have HG4 := hid hg4
  have hl12 := hB12.lt
  have hl14 := hB14.lt
  (have hc0 := hB12.cell 0; have hc1 := hB12.cell 1; have hc2 := hB12.cell 2; have hc3 := hB12.cell 3; have hc4 := hB12.cell 4; have hc5 := hB12.cell 5; have hc6 := hB12.cell 6; have hc7 := hB12.cell 7; have hc8 := hB12.cell 8; have hc9 := hB12.cell 9; simp [go_sem] at hc0 hc1 hc2 hc3 hc4 hc5 hc6 hc7 hc8 hc9)
  (have hd0 := hB14.cell 0; have hd1 := hB14.cell 1; have hd2 := hB14.cell 2; have hd3 := hB14.cell 3; have hd4 := hB14.cell 4; have hd5 := hB14.cell 5; have hd6 := hB14.cell 6; have hd7 := hB14.cell 7; have hd8 := hB14.cell 8; have hd9 := hB14.cell 9; simp [go_sem] at hd0 hd1 hd2 hd3 hd4 hd5 hd6 hd7 hd8 hd9)
  clear hB12 hB14 hO1 hS2 hg4
  cases mk
  · go_wp2_with (go_at_call 10; refine (l_vConsole N Z A1 A2 c1 c2 _ (HV1.out.grew (by (repeat (first | with_reducible exact grew_refl _ | with_reducible assumption | with_reducible refine grew_split ?_ | with_reducible refine grew_mk ?_ | with_reducible refine grew_plus ?_ | with_reducible refine grew_alloc ?_ | with_reducible refine grew_drew ?_ | (with_reducible refine grew_set ?_ (by first | exact Nat.le_refl _ | omega | (simp [go_sem]; done) | (simp [go_sem]; omega))))))) (HV2.out.grew (by (repeat (first | with_reducible exact grew_refl _ | with_reducible assumption | with_reducible refine grew_split ?_ | with_reducible refine grew_mk ?_ | with_reducible refine grew_plus ?_ | with_reducible refine grew_alloc ?_ | with_reducible refine grew_drew ?_ | (with_reducible refine grew_set ?_ (by first | exact Nat.le_refl _ | omega | (simp [go_sem]; done) | (simp [go_sem]; omega)))))))).mono ?_; (rintro e w' ⟨rfl, gx, rfl⟩))
    go_ret
    have h1 := HG3.out
    have h2 := grew_two' h1 HG4.out
    exact ⟨rfl, by (repeat (first | with_reducible exact grew_refl _ | with_reducible assumption | with_reducible refine grew_split ?_ | with_reducible refine grew_mk ?_ | with_reducible refine grew_plus ?_ | with_reducible refine grew_alloc ?_ | with_reducible refine grew_drew ?_ | (with_reducible refine grew_set ?_ (by first | exact Nat.le_refl _ | omega | (simp [go_sem]; done) | (simp [go_sem]; omega)))))⟩
  obtain ⟨ws, hws⟩ : ∃ ws, splitV t 10 = ws := ⟨_, rfl⟩
  have HW := hid hws
  have hws1 : (ws.length : Int) ≤ 301 := by
    have := splitV_len t 10
    rw [hws] at this
    omega
  have HSZ : Hid (∀ x ∈ ws, x.size ≤ t.size) := hid (by rw [← hws]; exact splitV_size t 10)
  have HNC := hid (show conOk N Z = true by rw [← HNN.out, ← HZ.out]; exact new_conOk HMK.out)
  clear hws
  go_wp2_with (go_at_call 10; refine (l_vConsole N Z A1 A2 c1 c2 _ (HV1.out.grew (by (repeat (first | with_reducible exact grew_refl _ | with_reducible assumption | with_reducible refine grew_split ?_ | with_reducible refine grew_mk ?_ | with_reducible refine grew_plus ?_ | with_reducible refine grew_alloc ?_ | with_reducible refine grew_drew ?_ | (with_reducible refine grew_set ?_ (by first | exact Nat.le_refl _ | omega | (simp [go_sem]; done) | (simp [go_sem]; omega))))))) (HV2.out.grew (by (repeat (first | with_reducible exact grew_refl _ | with_reducible assumption | with_reducible refine grew_split ?_ | with_reducible refine grew_mk ?_ | with_reducible refine grew_plus ?_ | with_reducible refine grew_alloc ?_ | with_reducible refine grew_drew ?_ | (with_reducible refine grew_set ?_ (by first | exact Nat.le_refl _ | omega | (simp [go_sem]; done) | (simp [go_sem]; omega)))))))).mono ?_; (rintro e w' ⟨rfl, gx, rfl⟩))
  refine (s_SplitString t _ (by omega)).mono ?_
  rw [HW.out]
  rintro e w' ⟨⟨A4, c4, rfl, hO4⟩, g4, rfl⟩
  (try rw [plus_plus] at hO4)
  have O4 := hid (OwnF.less hO4 (Nat.zero_le _))
  clear hO4 e1 e2 e3
  go_upto_block 0 with fail
  refine opq_wp (fun W5 => Blk W5 b12 30 #[.int .i64 (N).minute, .int .i64 (N).state, .slice A1 (N).lines.length c1, .int .i64 (N).line, .int .i64 (N).since, .int .i64 (N).cast, .int .i64 (N).fuel, .string (Z).d, .string (Z).p, .int .i64 (Z).n] ∧ OwnF 0 80 2 LineR.row W5 A1 N.lines ∧ OwnF 0 9 1 strRow W5 A4 ws ∧ ∃ g, W5 = plus W3 g) ⟨blk_grew HB12.out (by (repeat (first | with_reducible exact grew_refl _ | with_reducible assumption | with_reducible refine grew_split ?_ | with_reducible refine grew_mk ?_ | with_reducible refine grew_plus ?_ | with_reducible refine grew_alloc ?_ | with_reducible refine grew_drew ?_ | (with_reducible refine grew_set ?_ (by first | exact Nat.le_refl _ | omega | (simp [go_sem]; done) | (simp [go_sem]; omega)))))), HO1.out.grew (by (repeat (first | with_reducible exact grew_refl _ | with_reducible assumption | with_reducible refine grew_split ?_ | with_reducible refine grew_mk ?_ | with_reducible refine grew_plus ?_ | with_reducible refine grew_alloc ?_ | with_reducible refine grew_drew ?_ | (with_reducible refine grew_set ?_ (by first | exact Nat.le_refl _ | omega | (simp [go_sem]; done) | (simp [go_sem]; omega)))))), O4.out.grew (by (repeat (first | with_reducible exact grew_refl _ | with_reducible assumption | with_reducible refine grew_split ?_ | with_reducible refine grew_mk ?_ | with_reducible refine grew_plus ?_ | with_reducible refine grew_alloc ?_ | with_reducible refine grew_drew ?_ | (with_reducible refine grew_set ?_ (by first | exact Nat.le_refl _ | omega | (simp [go_sem]; done) | (simp [go_sem]; omega)))))), by have h := HG4.out; (repeat (first | with_reducible exact grew_refl _ | with_reducible assumption | with_reducible refine grew_split ?_ | with_reducible refine grew_mk ?_ | with_reducible refine grew_plus ?_ | with_reducible refine grew_alloc ?_ | with_reducible refine grew_drew ?_ | (with_reducible refine grew_set ?_ (by first | exact Nat.le_refl _ | omega | (simp [go_sem]; done) | (simp [go_sem]; omega)))))⟩ ?_
  clear O4 HB12 HO1 HG4 HV1 HV2 hl12 hl14
  clear hc0 hc1 hc2 hc3 hc4 hc5 hc6 hc7 hc8 hc9
  clear hd0 hd1 hd2 hd3 hd4 hd5 hd6 hd7 hd8 hd9
  rintro W5 ⟨hB5, hO5, hP5, hg5⟩
  have HB5 := hid hB5
  have HO5 := hid hO5
  have HP5 := hid hP5
  have HG5 := hid hg5
  clear hB5 hO5 hP5 hg5
  go_cut [18] (fun _ wx => ∃ (D : DayC) (L : LogR) (A' : Option Addr) (c' : Nat), stTo N Z ws ws.length = (D, L) ∧ Blk wx b12 30 #[.int .i64 (D).minute, .int .i64 (D).state, .slice A' (D).lines.length c', .int .i64 (D).line, .int .i64 (D).since, .int .i64 (D).cast, .int .i64 (D).fuel, .string (L).d, .string (L).p, .int .i64 (L).n] ∧ ∃ g, wx = plus W3 g)
  case first =>
    go_wp2_with fail
    go_loopw [18] (fun i wr => ∃ (k : Nat) (A' : Option Addr) (c' : Nat), k ≤ ws.length ∧ i = .int .i64 k ∧ Blk wr b12 30 #[.int .i64 ((stTo N Z ws k).1).minute, .int .i64 ((stTo N Z ws k).1).state, .slice A' ((stTo N Z ws k).1).lines.length c', .int .i64 ((stTo N Z ws k).1).line, .int .i64 ((stTo N Z ws k).1).since, .int .i64 ((stTo N Z ws k).1).cast, .int .i64 ((stTo N Z ws k).1).fuel, .string ((stTo N Z ws k).2).d, .string ((stTo N Z ws k).2).p, .int .i64 ((stTo N Z ws k).2).n] ∧ OwnF 0 80 2 LineR.row wr A' (stTo N Z ws k).1.lines ∧ OwnF 0 9 1 strRow wr A4 ws ∧ ∃ g, wr = plus W3 g) (fun i _ => ws.length - (intOf i).toNat)
    case atStart => exact ⟨0, A1, c1, Nat.zero_le _, rfl, HB5.out, HO5.out, HP5.out, HG5.out⟩
    case round =>
      obtain ⟨k, A', c', hk, rfl, hB, hO, hP, hg⟩ := hrel
      obtain ⟨D, L, hst⟩ : ∃ D L, stTo N Z ws k = (D, L) := ⟨_, _, rfl⟩
      have hok := stTo_ok HNC.out ws k
      rw [hst] at hB hO hok
      obtain ⟨q1, q2, q3⟩ := conOk_small hok
      simp only at hB hO q1 q2 q3
      have HST := hid hst
      have HB := hid hB
      have HO := hid hO
      have HP2 := hid hP
      have HG := hid hg
      have hbl := hB.lt
      clear hst hok HB5 HO5 HP5 HG5
      by_cases hlt : k < ws.length
      · obtain ⟨b, off, rfl, hb, hx⟩ := hP.sl.at_ hlt
        have y0 := tcellR hx hlt
        obtain ⟨x, hxx⟩ : ∃ x, ws[k] = x := ⟨_, rfl⟩
        have hxs := HSZ.out ws[k] (List.getElem_mem hlt)
        rw [hxx] at y0 hxs
        obtain ⟨D', L', r, hp⟩ : ∃ D' L' r, exeF D L x = (D', L', r) := ⟨_, _, _, rfl⟩
        have HX := hid hxx
        have HXP := hid hp
        (have hd0 := hB.cell 0; have hd1 := hB.cell 1; have hd2 := hB.cell 2; have hd3 := hB.cell 3; have hd4 := hB.cell 4; have hd5 := hB.cell 5; have hd6 := hB.cell 6; have hd7 := hB.cell 7; have hd8 := hB.cell 8; have hd9 := hB.cell 9; simp [go_sem] at hd0 hd1 hd2 hd3 hd4 hd5 hd6 hd7 hd8 hd9)
        (have fd0 := hB.frozen 0; have fd1 := hB.frozen 1; have fd2 := hB.frozen 2; have fd3 := hB.frozen 3; have fd4 := hB.frozen 4; have fd5 := hB.frozen 5; have fd6 := hB.frozen 6; have fd7 := hB.frozen 7; have fd8 := hB.frozen 8; have fd9 := hB.frozen 9)
        have hk0 : (0 : Int) ≤ (k : Int) := by omega
        have hk1 : (k : Int) < (ws.length : Int) := by omega
        have HEk := hid (HE3.out.grew hg)
        have HYk := hid (HY3.out.grew hg)
        clear hB hO hP hg hx hxx hp
        go_upto_region 19 with fail
        go_region_with (first | (go_at_call 8; refine (i_ExecuteCommand ⟨D, A', c'⟩ L x _ (HO.out.sl.grew (by (repeat (first | with_reducible exact grew_refl _ | with_reducible assumption | with_reducible refine grew_split ?_ | with_reducible refine grew_mk ?_ | with_reducible refine grew_plus ?_ | with_reducible refine grew_alloc ?_ | with_reducible refine grew_drew ?_ | (with_reducible refine grew_set ?_ (by first | exact Nat.le_refl _ | omega | (simp [go_sem]; done) | (simp [go_sem]; omega))))))) (by simp only; omega) (by omega) (by omega) (by omega) (HEk.out.grew (by (repeat (first | with_reducible exact grew_refl _ | with_reducible assumption | with_reducible refine grew_split ?_ | with_reducible refine grew_mk ?_ | with_reducible refine grew_plus ?_ | with_reducible refine grew_alloc ?_ | with_reducible refine grew_drew ?_ | (with_reducible refine grew_set ?_ (by first | exact Nat.le_refl _ | omega | (simp [go_sem]; done) | (simp [go_sem]; omega))))))) (HYk.out.grew (by (repeat (first | with_reducible exact grew_refl _ | with_reducible assumption | with_reducible refine grew_split ?_ | with_reducible refine grew_mk ?_ | with_reducible refine grew_plus ?_ | with_reducible refine grew_alloc ?_ | with_reducible refine grew_drew ?_ | (with_reducible refine grew_set ?_ (by first | exact Nat.le_refl _ | omega | (simp [go_sem]; done) | (simp [go_sem]; omega)))))))).mono ?_; rw [HXP.out]; rintro e w6 ⟨⟨A3, c3, rfl, hO3⟩, hg6⟩; have hR6 := blk_grew (blk_drew HB.out) hg6; have hrl6 := hR6.lt; clear hd0 hd1 hd2 hd3 hd4 hd5 hd6 hd7 hd8 hd9; clear fd0 fd1 fd2 fd3 fd4 fd5 fd6 fd7 fd8 fd9; (have he0 := hR6.cell 0; have he1 := hR6.cell 1; have he2 := hR6.cell 2; have he3 := hR6.cell 3; have he4 := hR6.cell 4; have he5 := hR6.cell 5; have he6 := hR6.cell 6; have he7 := hR6.cell 7; have he8 := hR6.cell 8; have he9 := hR6.cell 9; simp [go_sem] at he0 he1 he2 he3 he4 he5 he6 he7 he8 he9); (have fe0 := hR6.frozen 0; have fe1 := hR6.frozen 1; have fe2 := hR6.frozen 2; have fe3 := hR6.frozen 3; have fe4 := hR6.frozen 4; have fe5 := hR6.frozen 5; have fe6 := hR6.frozen 6; have fe7 := hR6.frozen 7; have fe8 := hR6.frozen 8; have fe9 := hR6.frozen 9); have HR6 := hid hR6; have HG6 := hid hg6; have HO3 := hid hO3; clear hg6 hR6 hO3) | fail)
        all_goals
          have hgr6 : ∃ g, w6 = plus wr g := grew_two' (grew_drew (grew_refl _)) HG6.out
          have HD6 := hid (OwnF.less HO3.out (Nat.zero_le _))
          have HP6 := hid (HP2.out.grew hgr6)
          have HGW6 := hid (grew_two' HG.out hgr6)
          clear hgr6
          go_upto_region 18 with fail
          refine opq_wp (fun W9 => Blk W9 b12 30 #[.int .i64 (D').minute, .int .i64 (D').state, .slice A3 (D').lines.length c3, .int .i64 (D').line, .int .i64 (D').since, .int .i64 (D').cast, .int .i64 (D').fuel, .string (L').d, .string (L').p, .int .i64 (L').n] ∧ OwnF 0 80 2 LineR.row W9 A3 D'.lines ∧ OwnF 0 9 1 strRow W9 (some ⟨b, off, none⟩) ws ∧ ∃ g, W9 = plus W3 g) ⟨?_, ?_, ?_, ?_⟩ ?_
          · exact (by (have h := ((((((((((HR6.out.set_ 0 (.int .i64 (D').minute)).set_ 1 (.int .i64 (D').state)).set_ 2 (.slice A3 (D').lines.length c3)).set_ 3 (.int .i64 (D').line)).set_ 4 (.int .i64 (D').since)).set_ 5 (.int .i64 (D').cast)).set_ 6 (.int .i64 (D').fuel)).set_ 7 (.string (L').d)).set_ 8 (.string (L').p)).set_ 9 (.int .i64 (L').n)); simp only [List.setIfInBounds_toArray, List.set_cons_zero, List.set_cons_succ] at h; exact h))
          · exact OwnF.apart HD6.out HR6.out (by decide) (by (repeat (first | with_reducible exact grown_refl _ _ | with_reducible refine grown_set ?_)))
          · exact OwnF.apart HP6.out HR6.out (by decide) (by (repeat (first | with_reducible exact grown_refl _ _ | with_reducible refine grown_set ?_)))
          · have hgw6 := HGW6.out
            (repeat (first | with_reducible exact grew_refl _ | with_reducible assumption | with_reducible refine grew_split ?_ | with_reducible refine grew_mk ?_ | with_reducible refine grew_plus ?_ | with_reducible refine grew_alloc ?_ | with_reducible refine grew_drew ?_ | (with_reducible refine grew_set ?_ (by first | exact Nat.le_refl _ | omega | (simp [go_sem]; done) | (simp [go_sem]; omega)))))
          clear hrl6 y0
          clear he0 he1 he2 he3 he4 he5 he6 he7 he8 he9
          clear fe0 fe1 fe2 fe3 fe4 fe5 fe6 fe7 fe8 fe9
          have HST2 : Hid (stTo N Z ws (k + 1) = (D', L')) := hid (by rw [stTo_step hlt, HST.out, HX.out, HXP.out])
          rintro W9 ⟨hB9, hD9, hP9, hg9⟩
          have HB9 := hid hB9
          have HD9 := hid hD9
          have HP9 := hid hP9
          have HG9 := hid hg9
          clear hB9 hD9 hP9 hg9
          go_wp2_with fail
          go_roundw
          case measure => simp [intOf]; omega
          case rel => exact ⟨k + 1, A3, c3, by omega, by go_num, by rw [HST2.out]; exact HB9.out, by rw [HST2.out]; exact HD9.out, HP9.out, HG9.out⟩
      · obtain rfl : k = ws.length := by omega
        clear hB hO hP hg
        go_wp2_with fail
        go_meet
        exact ⟨D, L, A', c', HST.out, HB.out, HG.out⟩
  case rest =>
    clear HB5 HO5 HP5 HG5
    obtain ⟨D, L, A', c', hst, hB, hg⟩ := hcut
    obtain ⟨kk, hkk⟩ : ∃ kk : Int, (L.p.size : Int) - (L.p.size : Int) % 7 = kk := ⟨_, rfl⟩
    have hk2 : 0 ≤ kk ∧ kk ≤ L.p.size := by omega
    have hst' := hst
    rw [← HNN.out, ← HZ.out] at hst'
    have hlaw := replay_law HMK.out ws kk (L := L) (by rw [hst']) (by simp [inB]; omega)
    rw [hst'] at hlaw
    simp only at hlaw
    obtain ⟨r1, r2, r3, r4, r5, r6, r7, r8⟩ := hlaw
    obtain ⟨q1, q2, q3⟩ := conOk_small r1
    obtain ⟨cs, co, hcr⟩ : ∃ cs co, crashF L kk false = (cs, co) := ⟨_, _, rfl⟩
    rw [hcr] at r4 r5 r6 r7 r8
    simp only at r4 r5 r6 r7 r8
    subst r4
    obtain ⟨M, en, told, hrv⟩ : ∃ M en told, recovF cs = (M, en, told) := ⟨_, _, _, rfl⟩
    rw [hrv] at r6 r7 r8
    simp only at r6 r7 r8
    subst r7
    have hM := LogR.small r6
    rw [ByteArray.size_append] at hM
    have HKK := hid hkk
    have e4 : (L.n == L.n) = true := by simp
    have e5 : (M.n == M.n) = true := by simp
    have HR3 := hid r3
    have HR8 := hid r8
    have HCR := hid hcr
    have HRV := hid hrv
    have HB := hid hB
    have HG := hid (grew_two' HG3.out hg)
    have HSx := hid (HS3.out.grew hg)
    have HEx := hid (HE3.out.grew hg)
    have HYx := hid (HY3.out.grew hg)
    have hbl := hB.lt
    (have hc0 := hB.cell 0; have hc1 := hB.cell 1; have hc2 := hB.cell 2; have hc3 := hB.cell 3; have hc4 := hB.cell 4; have hc5 := hB.cell 5; have hc6 := hB.cell 6; have hc7 := hB.cell 7; have hc8 := hB.cell 8; have hc9 := hB.cell 9; simp [go_sem] at hc0 hc1 hc2 hc3 hc4 hc5 hc6 hc7 hc8 hc9)
    clear hst hst' hB hg hkk r1 r2 r3 r6 r8 hcr hrv HS3 HE3 HY3 HG3
    go_wp2_with fail
    refine (i_ReplayLog ms B d fu L _ (HSx.out.grew (by (repeat (first | with_reducible exact grew_refl _ | with_reducible assumption | with_reducible refine grew_split ?_ | with_reducible refine grew_mk ?_ | with_reducible refine grew_plus ?_ | with_reducible refine grew_alloc ?_ | with_reducible refine grew_drew ?_ | (with_reducible refine grew_set ?_ (by first | exact Nat.le_refl _ | omega | (simp [go_sem]; done) | (simp [go_sem]; omega))))))) (by omega) (by omega) (by omega) (HEx.out.grew (by (repeat (first | with_reducible exact grew_refl _ | with_reducible assumption | with_reducible refine grew_split ?_ | with_reducible refine grew_mk ?_ | with_reducible refine grew_plus ?_ | with_reducible refine grew_alloc ?_ | with_reducible refine grew_drew ?_ | (with_reducible refine grew_set ?_ (by first | exact Nat.le_refl _ | omega | (simp [go_sem]; done) | (simp [go_sem]; omega))))))) (HYx.out.grew (by (repeat (first | with_reducible exact grew_refl _ | with_reducible assumption | with_reducible refine grew_split ?_ | with_reducible refine grew_mk ?_ | with_reducible refine grew_plus ?_ | with_reducible refine grew_alloc ?_ | with_reducible refine grew_drew ?_ | (with_reducible refine grew_set ?_ (by first | exact Nat.le_refl _ | omega | (simp [go_sem]; done) | (simp [go_sem]; omega)))))))).mono ?_
    rw [HR3.out]
    (rintro e w' ⟨rfl, gx, rfl⟩)
    go_wp2_with fail
    rw [HKK.out]
    refine (i_CrashLog L kk false _ (by omega) (by omega) (HEx.out.grew (by (repeat (first | with_reducible exact grew_refl _ | with_reducible assumption | with_reducible refine grew_split ?_ | with_reducible refine grew_mk ?_ | with_reducible refine grew_plus ?_ | with_reducible refine grew_alloc ?_ | with_reducible refine grew_drew ?_ | (with_reducible refine grew_set ?_ (by first | exact Nat.le_refl _ | omega | (simp [go_sem]; done) | (simp [go_sem]; omega)))))))).mono ?_
    rw [HCR.out]
    (rintro e w' ⟨rfl, gx, rfl⟩)
    go_wp2_with fail
    refine (i_RecoverLog cs _ (by omega) (HEx.out.grew (by (repeat (first | with_reducible exact grew_refl _ | with_reducible assumption | with_reducible refine grew_split ?_ | with_reducible refine grew_mk ?_ | with_reducible refine grew_plus ?_ | with_reducible refine grew_alloc ?_ | with_reducible refine grew_drew ?_ | (with_reducible refine grew_set ?_ (by first | exact Nat.le_refl _ | omega | (simp [go_sem]; done) | (simp [go_sem]; omega)))))))).mono ?_
    rw [HRV.out]
    (rintro e w' ⟨rfl, gx, rfl⟩)
    go_wp2_with fail
    refine (i_ReplayLog ms B d fu M _ (HSx.out.grew (by (repeat (first | with_reducible exact grew_refl _ | with_reducible assumption | with_reducible refine grew_split ?_ | with_reducible refine grew_mk ?_ | with_reducible refine grew_plus ?_ | with_reducible refine grew_alloc ?_ | with_reducible refine grew_drew ?_ | (with_reducible refine grew_set ?_ (by first | exact Nat.le_refl _ | omega | (simp [go_sem]; done) | (simp [go_sem]; omega))))))) (by omega) (by omega) (by omega) (HEx.out.grew (by (repeat (first | with_reducible exact grew_refl _ | with_reducible assumption | with_reducible refine grew_split ?_ | with_reducible refine grew_mk ?_ | with_reducible refine grew_plus ?_ | with_reducible refine grew_alloc ?_ | with_reducible refine grew_drew ?_ | (with_reducible refine grew_set ?_ (by first | exact Nat.le_refl _ | omega | (simp [go_sem]; done) | (simp [go_sem]; omega))))))) (HYx.out.grew (by (repeat (first | with_reducible exact grew_refl _ | with_reducible assumption | with_reducible refine grew_split ?_ | with_reducible refine grew_mk ?_ | with_reducible refine grew_plus ?_ | with_reducible refine grew_alloc ?_ | with_reducible refine grew_drew ?_ | (with_reducible refine grew_set ?_ (by first | exact Nat.le_refl _ | omega | (simp [go_sem]; done) | (simp [go_sem]; omega)))))))).mono ?_
    rw [HR8.out]
    (rintro e w' ⟨rfl, gx, rfl⟩)
    go_wp2_with fail
    go_ret
    have h := HG.out
    exact ⟨rfl, by (repeat (first | with_reducible exact grew_refl _ | with_reducible assumption | with_reducible refine grew_split ?_ | with_reducible refine grew_mk ?_ | with_reducible refine grew_plus ?_ | with_reducible refine grew_alloc ?_ | with_reducible refine grew_drew ?_ | (with_reducible refine grew_set ?_ (by first | exact Nat.le_refl _ | omega | (simp [go_sem]; done) | (simp [go_sem]; omega)))))⟩
theorem fnReplay_met (os : Os) : laidMet Tryz.prog Rows.fnReplayRow.laid ((laidWorld os).forCall (fun _ _ => 0) ⟨#[], #[.slice none 0 0], []⟩).memory :=
  laidMet_of_run' 8 (by kernel_rfl) (by kernel_rfl)
theorem fnReplay_reads (os : Os) {H : Type} (enc : TypeId × Value → H) : ∃ places, DataW.whole enc Tryz.prog ((laidWorld os).forCall (fun _ _ => 0) ⟨#[], #[.slice none 0 0], []⟩).memory Tryz.f5.params.toList Rows.fnReplaySpec.vars false (#[.slice none 0 0] : Array Value).toList 8 = some ([.nil], [], places) :=
  ⟨[], by kernel_rfl⟩
set_option maxRecDepth 100000 in
theorem fnReplay_contract (H : Type) (enc : TypeId × Value → H) (W : World) (base : Nat) (args : Array Value) (ds gs : List (DataW H)) (before : List MemPlace)
    (hval0 : ∀ (j : Nat) t v, Tryz.f5.params[j]? = some t → args[j]? = some v → Value.okWide Tryz.prog W .any base t v)
    (hW : DataW.Whole enc Tryz.prog Tryz.f5.params.toList Rows.fnReplaySpec.vars false W args.toList ds gs before) (hL : laidMetH Tryz.prog Rows.fnReplayRow.laid W) (_hsh : W.ShapedOpen Tryz.prog) :
    Calls Tryz.prog 5 args W fun e W' => ∃ v, e = .returned v ∧ Rows.fnReplaySpec.post enc Tryz.prog Tryz.f5 false true false false W args v W' := by
  have hT : Tab W := tab_of hL
  have hval := hval0
  have hW' := hW
  obtain ⟨p, q, hA0, hV, rfl, hfz, hnd⟩ := hW
  have hA : DataW.TrodAll enc Tryz.prog W 0 (fun _ => true) true Tryz.f5.params.toList args.toList ds p := hA0
  rw [Tryz.params5] at hA hval
  obtain ⟨v0, vs0, d0, ds0, p0, q0, hargs, rfl, rfl, h0, r0⟩ := trodAll_cons hA
  obtain ⟨rfl, rfl, rfl⟩ := trodAll_nil r0
  obtain rfl : args = #[v0] := by cases args; simp_all
  obtain ⟨rfl, rfl⟩ := trodVars_none hV
  have k0 := h0
  have lt0 : ∀ x ∈ p0, x.block < W.heap.size := by obtain ⟨m, hm⟩ := k0; exact DataW.trod_lt m _ _ _ hm
  obtain ⟨A, c, l, rfl, hS, hb, hl⟩ := open_code (hval 0 22 v0 rfl rfl) h0
  clear hA0 hval0
  refine (l_FnReplay A c l W hS hb hl (env_of hT _hsh) (syn_of hL)).mono fun e W' ⟨he, hg⟩ => ?_
  have bel := below_of_grew hg
  subst he
  exact ⟨_, rfl, _, _, _, [], _, [], hW', trodAll_mk1 (shut_bool Tryz.underlying4 _), (trodAll_cons_mk (Below.trod laid_out (by kernel_rfl) (of_decide_eq_true (by kernel_rfl)) k0 bel lt0) trodAll_mk0), rfl, bel.frame _, fun h => by cases h⟩
set_option maxRecDepth 100000 in
theorem fnReplay_lifted (os : Os) (started : os.Started) (H : Type) (enc : TypeId × Value → H) (F : Stop.Interp) :
    ReturnsInHanded {} Tryz.checked os 5 .any ((OpenSpec.ofChange Rows.fnReplaySpec).preRow enc Tryz.prog Tryz.f5 Rows.fnReplayRow.domain false Rows.fnReplayRow.laid) (((OpenSpec.ofChange Rows.fnReplaySpec).at F).post enc Tryz.prog Tryz.f5 false true false false) := by
  obtain ⟨places, hx⟩ := fnReplay_reads os enc
  refine returnsInHanded_of_row (C := Tryz.checked) (s := OpenSpec.ofChange Rows.fnReplaySpec) own_knob started (by kernel_rfl) Tryz.func5
    (witness_row_at (enc := enc) (C := Tryz.checked) false (laidWorld os) #[.slice none 0 0] rfl (by kernel_rfl) (by kernel_rfl) (by kernel_rfl)
      (OpenSpec.preRow_of_cond 8 hx (by kernel_rfl) (fun k hk => by cases hk) (by kernel_rfl) (fnReplay_met os))) ?_
  intro W base args ds gs before hval hW _ _ _ hL hsh _
  exact fnReplay_contract H enc W base args ds gs before hval hW hL hsh
theorem fnReplay_said : Rows.FnReplaySaid :=
  OpenClaim.holds_of_cond 5 Tryz.f5 rfl rfl rfl rfl rfl rfl rfl ⟨rfl, rfl, rfl, rfl, rfl⟩ rfl rfl rfl rfl rfl (by kernel_rfl) Tryz.func5 (by kernel_rfl)
    (of_decide_eq_true (by kernel_rfl)) (by unfold Func.isWrapper; first | (rw [if_pos (by decide +kernel)]; kernel_rfl) | (rw [if_neg (by decide +kernel)]; exact ⟨rfl, rfl⟩))
    (fun os started H enc _ F => by rw [OpenClaim.pre_eq_preRow]; exact fnReplay_lifted os started H enc F)
theorem fnReplay_plain (f : FuncId) (fn : Func) (hf : Tryz.pinned.checked.prog.funcNamed Rows.fnReplayRow.func = some f) (hfn : Tryz.pinned.checked.prog.funcs[f]? = some fn) :
    ∀ (j : Nat) t, fn.params[j]? = some t → Tryz.pinned.checked.prog.wantsStandIn t = false := by
  obtain rfl : f = 5 := Option.some.inj ((show Tryz.prog.funcNamed Rows.fnReplayRow.func = some 5 by kernel_rfl).symm.trans hf) |>.symm
  obtain rfl : fn = Tryz.f5 := (Option.some.inj (Tryz.func5.symm.trans hfn)).symm
  intro j t ht
  have h : ∀ t ∈ Tryz.f5.params.toList, Tryz.prog.wantsStandIn t = false := by rw [Tryz.params5]; intro t ht; simp at ht; rcases ht with rfl <;> kernel_rfl
  exact h t (by simpa using Array.mem_of_getElem? ht)
theorem fnReplay_holds : Rows.FnReplayCardSaid :=
  Claim7.holds_tied_plain_at .later [] _ _ _ _ fnReplay_said (fun _ h => by cases h) (by kernel_rfl) (fun _ h => by cases h) fnReplay_row_tie rfl ⟨rfl, rfl⟩ (by kernel_rfl) rfl (fun f fn hf hfn => ⟨by kernel_rfl, fnReplay_plain f fn hf hfn⟩) (by kernel_rfl)
end Go.Proofs.YtecghfcgahgfiaaGreatDoor
