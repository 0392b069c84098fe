import Derived.Test.YtecghfcgahgfiaaGreatDoorP19
/- How many lines are possible: the reference's walk. -/
namespace Go.Proofs.YtecghfcgahgfiaaGreatDoor
open Go.RowKit

set_option maxHeartbeats 1000000 in
theorem s_l1Has (l : List Int) (x : Int) (o : Bool) (ho : l.contains x = o) (A : Option Addr) (c : Nat) (w : World) (hA : Sl w 1 intRow A l) (hl : l.length ≤ 1048576) :
    Calls Tryz.prog 122 #[.slice A l.length c, .int .i64 x] w fun e w' => e = .returned (.bool o) ∧ ∃ g, w' = plus w g := by
  have HO := hid ho
  have HA := hid hA
  clear ho hA
  go_enter Tryz.func122, Tryz.ntmps122
  go_wp2_with fail
  go_loopw [4, 5] (fun _ i wr => ∃ k : Nat, k ≤ l.length ∧ i = .int .i64 k ∧ (l.take k).contains x = false ∧ (∃ g, wr = plus w g)) (fun _ i _ => l.length - (intOf i).toNat)
  case atStart => exact ⟨0, Nat.zero_le _, rfl, by simp, by (repeat (first | with_reducible exact grew_refl _ | with_reducible assumption | with_reducible refine grew_split ?_ | with_reducible refine grew_mk ?_ | with_reducible refine grew_plus ?_ | with_reducible refine grew_alloc ?_ | with_reducible refine grew_drew ?_ | (with_reducible refine grew_set ?_ (by first | exact Nat.le_refl _ | omega | (simp [go_sem]; done) | (simp [go_sem]; omega)))))⟩
  case round =>
    obtain ⟨k, hk, rfl, hT, hg⟩ := hrel
    have HA2 := hid (HA.out.grew hg)
    have HT := hid hT
    have HG := hid hg
    clear hT hg
    by_cases hlt : k < l.length
    · obtain ⟨b, off, rfl, hb, hc⟩ := HA2.out.at_ hlt
      have hc0 := icells hc hlt
      clear hc
      by_cases hx : l[k] = x
      · have hx' : (l[k] == x) = true := by simp [hx]
        have HX := hid hx
        clear hx
        go_wp2_with fail
        go_ret
        have hg := HG.out
        exact ⟨ret_bool (by rw [← HO.out]; have h := List.getElem_mem hlt; rw [HX.out] at h; simp [h]), by (repeat (first | with_reducible exact grew_refl _ | with_reducible assumption | with_reducible refine grew_split ?_ | with_reducible refine grew_mk ?_ | with_reducible refine grew_plus ?_ | with_reducible refine grew_alloc ?_ | with_reducible refine grew_drew ?_ | (with_reducible refine grew_set ?_ (by first | exact Nat.le_refl _ | omega | (simp [go_sem]; done) | (simp [go_sem]; omega)))))⟩
      · have hx' : (l[k] == x) = false := by simp [hx]
        have HX := hid hx
        clear hx
        go_wp2_with fail
        go_roundw
        case rel =>
          have hg := HG.out
          have ht := HT.out
          have hx := HX.out
          refine ⟨k + 1, by omega, by go_num, ?_, by (repeat (first | with_reducible exact grew_refl _ | with_reducible assumption | with_reducible refine grew_split ?_ | with_reducible refine grew_mk ?_ | with_reducible refine grew_plus ?_ | with_reducible refine grew_alloc ?_ | with_reducible refine grew_drew ?_ | (with_reducible refine grew_set ?_ (by first | exact Nat.le_refl _ | omega | (simp [go_sem]; done) | (simp [go_sem]; omega)))))⟩
          rw [List.take_succ_eq_append_getElem hlt]
          simp only [List.contains_eq_mem, decide_eq_false_iff_not, List.mem_append, List.mem_singleton] at ht ⊢
          rintro (h | h)
          · exact ht h
          · exact hx h.symm
        case measure => simp [intOf]; omega
    · obtain rfl : k = l.length := by omega
      go_wp2_with fail
      go_ret
      have hg := HG.out
      exact ⟨ret_bool (by rw [← HO.out]; have := HT.out; rw [List.take_length] at this; exact this.symm), by (repeat (first | with_reducible exact grew_refl _ | with_reducible assumption | with_reducible refine grew_split ?_ | with_reducible refine grew_mk ?_ | with_reducible refine grew_plus ?_ | with_reducible refine grew_alloc ?_ | with_reducible refine grew_drew ?_ | (with_reducible refine grew_set ?_ (by first | exact Nat.le_refl _ | omega | (simp [go_sem]; done) | (simp [go_sem]; omega)))))⟩
def slLen : Value → Nat
  | .slice _ n _ => n
  | _ => 0
set_option maxHeartbeats 4000000 in
set_option maxRecDepth 10000 in
theorem s_MostLines (v : DayV) (w : World) (hv : v.At w) :
    Calls Tryz.prog 104 #[v.val] w fun e w' => e = .returned (.tuple #[.int .i64 (mostF v.core).1, .bool (mostF v.core).2]) ∧ ∃ g, w' = plus w g := by
  have HV := hid hv
  cases ho : v.core.ok
  · have HF : Hid (mostF v.core = (0, false)) := hid (by simp [mostF, ho])
    clear hv
    go_enter Tryz.func104, Tryz.ntmps104
    go_wp2_with (go_at_call 75; refine (s_l25Good v _ ho _ (HV.out.alloc _)).mono ?_; (rintro e w' ⟨rfl, gx, rfl⟩))
    go_ret2
    exact ⟨ret_ib (by rw [HF.out]) (by rw [HF.out]), by (repeat (first | with_reducible exact grew_refl _ | with_reducible assumption | with_reducible refine grew_split ?_ | with_reducible refine grew_mk ?_ | with_reducible refine grew_plus ?_ | with_reducible refine grew_alloc ?_ | with_reducible refine grew_drew ?_ | (with_reducible refine grew_set ?_ (by first | exact Nat.le_refl _ | omega | (simp [go_sem]; done) | (simp [go_sem]; omega)))))⟩
  · have HF : Hid (mostF v.core = ((greedy (sOf v.core) (1440 - v.core.minute) (sOf v.core).length).1, true)) := hid (by simp [mostF, ho])
    have HO := hid ho
    clear hv
    go_enter Tryz.func104, Tryz.ntmps104
    go_wp2_with (go_at_call 75; refine (s_l25Good v _ ho _ (HV.out.alloc _)).mono ?_; (rintro e w' ⟨rfl, gx, rfl⟩))
    have hp := HV.out.ln
    have hb := DayC.bounds ho
    obtain ⟨⟨minute, state, lines, line, since, cast, fuel⟩, A, c⟩ := v
    simp only at hp hb HF HO ⊢
    obtain ⟨b1, b2, b3, b4, b5, b6, b7, b8, b9, b10, b11, b12, b13, b14⟩ := hb
    clear ho
    generalize hD : (⟨minute, state, lines, line, since, cast, fuel⟩ : DayC) = D at HF HO
    have hDl : D.lines = lines := by rw [← hD]
    have hDm : D.minute = minute := by rw [← hD]
    have HDL := hid hD
    have HDl := hid hDl
    have HDm := hid hDm
    have hmB : ∀ k (hk : k < lines.length), mAt D k = lines[k].minutes := by intro k hk; subst hD; simp [mAt, hk]
    have HmB := hid hmB
    have heqB : ∀ k (hk : k < lines.length), openB D k = (!lines[k].done && decide ((k : Int) + 1 ≠ line)) := by intro k hk; subst hD; exact openB_eq (v := ⟨minute, state, lines, line, since, cast, fuel⟩) hk
    have HeqB := hid heqB
    have HPS := hid (Picked.start D)
    clear hD hDl hDm hmB heqB
    rw [HDm.out] at HPS
    have HP := hid hp
    clear hp
    go_region
    all_goals
      go_wp2_with fail
      go_loopw [4, 5] (fun a lf wr => ∃ (T : List Int) (A' : Option Addr) (c' : Nat) (left : Int), a = .slice A' T.length c' ∧ lf = .int .i64 left ∧ Own (w.alloc (.cells #[.int .i64 minute, .int .i64 state, .slice A lines.length c, .int .i64 line, .int .i64 since, .int .i64 cast, .int .i64 fuel] 26)).heap.size 3 1 intRow wr A' c' T ∧ Picked D T left ∧ 0 ≤ left ∧ left ≤ 1440 ∧ T.length ≤ lines.length ∧ ∃ g, wr = plus (w.alloc (.cells #[.int .i64 minute, .int .i64 state, .slice A lines.length c, .int .i64 line, .int .i64 since, .int .i64 cast, .int .i64 fuel] 26)) g) (fun a _ _ => lines.length - slLen a)
      case atStart => exact ⟨[], _, _, _, rfl, rfl, Own.newIn (o := .cells #[] 3) (by (repeat (first | with_reducible exact grew_refl _ | with_reducible assumption | with_reducible refine grew_split ?_ | with_reducible refine grew_mk ?_ | with_reducible refine grew_plus ?_ | with_reducible refine grew_alloc ?_ | with_reducible refine grew_drew ?_ | (with_reducible refine grew_set ?_ (by first | exact Nat.le_refl _ | omega | (simp [go_sem]; done) | (simp [go_sem]; omega)))))) rfl (by simp [go_sem]) (by simp [go_sem]), HPS.out, by omega, by omega, by simp, by (repeat (first | with_reducible exact grew_refl _ | with_reducible assumption | with_reducible refine grew_split ?_ | with_reducible refine grew_mk ?_ | with_reducible refine grew_plus ?_ | with_reducible refine grew_alloc ?_ | with_reducible refine grew_drew ?_ | (with_reducible refine grew_set ?_ (by first | exact Nat.le_refl _ | omega | (simp [go_sem]; done) | (simp [go_sem]; omega)))))⟩
      case round =>
        obtain ⟨T, A', c', left, rfl, rfl, hO, hPk, l0, l1, hTl, g, rfl⟩ := hrel
        have HOw := hid hO
        have HPk := hid hPk
        clear hO hPk
        by_cases hfull : T.length < lines.length
        · go_wp2_with fail
          go_loopw [6, 7] (fun be i wr => ∃ (k : Nat) (bb : Int), k ≤ lines.length ∧ i = .int .i64 k ∧ be = .int .i64 bb ∧ BestR D T k bb ∧ ∃ g', wr = plus (plus (w.alloc (.cells #[.int .i64 minute, .int .i64 state, .slice A lines.length c, .int .i64 line, .int .i64 since, .int .i64 cast, .int .i64 fuel] 26)) g) g') (fun _ i _ => lines.length - (intOf i).toNat)
          case atStart => exact ⟨0, -1, Nat.zero_le _, rfl, rfl, BestR.zero _ _, by (repeat (first | with_reducible exact grew_refl _ | with_reducible assumption | with_reducible refine grew_split ?_ | with_reducible refine grew_mk ?_ | with_reducible refine grew_plus ?_ | with_reducible refine grew_alloc ?_ | with_reducible refine grew_drew ?_ | (with_reducible refine grew_set ?_ (by first | exact Nat.le_refl _ | omega | (simp [go_sem]; done) | (simp [go_sem]; omega)))))⟩
          case round =>
            obtain ⟨k, bb, hk, rfl, rfl, hB, g', rfl⟩ := hrel
            have HB := hid hB
            clear hB
            have HTS := hid (HOw.out.sl intRow_len)
            by_cases hlt : k < lines.length
            · obtain ⟨b, off, hA, hb, hc⟩ := HP.out.at_ hlt
              obtain ⟨hc0, hc1⟩ := lcells hc hlt
              have HC := hid hc
              have HE := hid (HeqB.out k hlt)
              have HM := hid (HmB.out k hlt)
              clear hc
              subst hA
              cases hd : lines[k].done
              · by_cases hl : (k : Int) + 1 = line
                · have hl' : (line == (k : Int) + 1) = true := by rw [hl]; simp
                  have HS := hid (HB.out.skip (.inl (by rw [HE.out, hd]; simp [hl])))
                  clear hl
                  go_wp2_with fail
                  go_roundw
                  case rel => exact ⟨k + 1, bb, by omega, by go_num, rfl, HS.out, by (repeat (first | with_reducible exact grew_refl _ | with_reducible assumption | with_reducible refine grew_split ?_ | with_reducible refine grew_mk ?_ | with_reducible refine grew_plus ?_ | with_reducible refine grew_alloc ?_ | with_reducible refine grew_drew ?_ | (with_reducible refine grew_set ?_ (by first | exact Nat.le_refl _ | omega | (simp [go_sem]; done) | (simp [go_sem]; omega)))))⟩
                  case measure => simp [intOf]; omega
                · have hl' : (line == (k : Int) + 1) = false := by rw [beq_eq_false_iff_ne]; omega
                  have HOB := hid (show openB D k = true by rw [HE.out, hd]; simp [hl])
                  clear hl
                  cases hh : T.contains (k : Int)
                  · have HH := hid hh
                    clear hh
                    go_wp2_with (go_at_call 122; refine (s_l1Has T k _ HH.out A' c' _ (HTS.out.grew (by (repeat (first | with_reducible exact grew_refl _ | with_reducible assumption | with_reducible refine grew_split ?_ | with_reducible refine grew_mk ?_ | with_reducible refine grew_plus ?_ | with_reducible refine grew_alloc ?_ | with_reducible refine grew_drew ?_ | (with_reducible refine grew_set ?_ (by first | exact Nat.le_refl _ | omega | (simp [go_sem]; done) | (simp [go_sem]; omega))))))) (by omega)).mono ?_; (rintro e w' ⟨rfl, gx, rfl⟩))
                    rcases HB.out with ⟨e1, _⟩ | ⟨b1, e1, hb1, _⟩
                    · subst e1
                      have HS := hid (HB.out.first HOB.out HH.out)
                      (refine wp_region_calm (by kernel_rfl) (by kernel_rfl) ?_; (repeat' (first | go_big_quiet_step (fail) | (refine wpQuiet_step (fun K hK => ?_); go_simp; go_ite <;> go_simp <;> (first | (refine hK _ ?_; clear hK K) | (apply Exists.intro; refine ⟨fun _ => ?_, hK _ ?_⟩; (fail); clear hK K))))); all_goals (refine wpQuiet_nil ?_; intro _ hw'; obtain ⟨gq, hw''⟩ := hw'; subst hw''))
                      go_wp2_with fail
                      go_roundw
                      case rel => exact ⟨k + 1, k, by omega, by go_num, rfl, HS.out, by (repeat (first | with_reducible exact grew_refl _ | with_reducible assumption | with_reducible refine grew_split ?_ | with_reducible refine grew_mk ?_ | with_reducible refine grew_plus ?_ | with_reducible refine grew_alloc ?_ | with_reducible refine grew_drew ?_ | (with_reducible refine grew_set ?_ (by first | exact Nat.le_refl _ | omega | (simp [go_sem]; done) | (simp [go_sem]; omega)))))⟩
                      case measure => simp [intOf]; omega
                    · subst e1
                      have hb2 : b1 < lines.length := by omega
                      obtain ⟨hd0, hd1⟩ := lcells HC.out hb2
                      have HM1 := hid (HmB.out b1 hb2)
                      have hnn : ((b1 : Int) < 0) = False := eq_false (by omega)
                      by_cases hle : lines[k].minutes < lines[b1].minutes
                      · have HS := hid (HB.out.less HOB.out HH.out (by rw [HM.out, HM1.out]; exact hle))
                        (refine wp_region_calm (by kernel_rfl) (by kernel_rfl) ?_; (repeat' (first | go_big_quiet_step (fail) | (refine wpQuiet_step (fun K hK => ?_); go_simp; go_ite <;> go_simp <;> (first | (refine hK _ ?_; clear hK K) | (apply Exists.intro; refine ⟨fun _ => ?_, hK _ ?_⟩; (fail); clear hK K))))); all_goals (refine wpQuiet_nil ?_; intro _ hw'; obtain ⟨gq, hw''⟩ := hw'; subst hw''))
                        go_wp2_with fail
                        go_roundw
                        case rel => exact ⟨k + 1, k, by omega, by go_num, rfl, HS.out, by (repeat (first | with_reducible exact grew_refl _ | with_reducible assumption | with_reducible refine grew_split ?_ | with_reducible refine grew_mk ?_ | with_reducible refine grew_plus ?_ | with_reducible refine grew_alloc ?_ | with_reducible refine grew_drew ?_ | (with_reducible refine grew_set ?_ (by first | exact Nat.le_refl _ | omega | (simp [go_sem]; done) | (simp [go_sem]; omega)))))⟩
                        case measure => simp [intOf]; omega
                      · have HS := hid (HB.out.more (by rw [HM.out, HM1.out]; exact hle))
                        (refine wp_region_calm (by kernel_rfl) (by kernel_rfl) ?_; (repeat' (first | go_big_quiet_step (fail) | (refine wpQuiet_step (fun K hK => ?_); go_simp; go_ite <;> go_simp <;> (first | (refine hK _ ?_; clear hK K) | (apply Exists.intro; refine ⟨fun _ => ?_, hK _ ?_⟩; (fail); clear hK K))))); all_goals (refine wpQuiet_nil ?_; intro _ hw'; obtain ⟨gq, hw''⟩ := hw'; subst hw''))
                        go_wp2_with fail
                        go_roundw
                        case rel => exact ⟨k + 1, b1, by omega, by go_num, rfl, HS.out, by (repeat (first | with_reducible exact grew_refl _ | with_reducible assumption | with_reducible refine grew_split ?_ | with_reducible refine grew_mk ?_ | with_reducible refine grew_plus ?_ | with_reducible refine grew_alloc ?_ | with_reducible refine grew_drew ?_ | (with_reducible refine grew_set ?_ (by first | exact Nat.le_refl _ | omega | (simp [go_sem]; done) | (simp [go_sem]; omega)))))⟩
                        case measure => simp [intOf]; omega
                  · have HS := hid (HB.out.skip (.inr hh))
                    have HH := hid hh
                    clear hh
                    go_wp2_with (go_at_call 122; refine (s_l1Has T k _ HH.out A' c' _ (HTS.out.grew (by (repeat (first | with_reducible exact grew_refl _ | with_reducible assumption | with_reducible refine grew_split ?_ | with_reducible refine grew_mk ?_ | with_reducible refine grew_plus ?_ | with_reducible refine grew_alloc ?_ | with_reducible refine grew_drew ?_ | (with_reducible refine grew_set ?_ (by first | exact Nat.le_refl _ | omega | (simp [go_sem]; done) | (simp [go_sem]; omega))))))) (by omega)).mono ?_; (rintro e w' ⟨rfl, gx, rfl⟩))
                    go_roundw
                    case rel => exact ⟨k + 1, bb, by omega, by go_num, rfl, HS.out, by (repeat (first | with_reducible exact grew_refl _ | with_reducible assumption | with_reducible refine grew_split ?_ | with_reducible refine grew_mk ?_ | with_reducible refine grew_plus ?_ | with_reducible refine grew_alloc ?_ | with_reducible refine grew_drew ?_ | (with_reducible refine grew_set ?_ (by first | exact Nat.le_refl _ | omega | (simp [go_sem]; done) | (simp [go_sem]; omega)))))⟩
                    case measure => simp [intOf]; omega
              · have HS := hid (HB.out.skip (.inl (by rw [HE.out, hd]; simp)))
                go_wp2_with fail
                go_roundw
                case rel => exact ⟨k + 1, bb, by omega, by go_num, rfl, HS.out, by (repeat (first | with_reducible exact grew_refl _ | with_reducible assumption | with_reducible refine grew_split ?_ | with_reducible refine grew_mk ?_ | with_reducible refine grew_plus ?_ | with_reducible refine grew_alloc ?_ | with_reducible refine grew_drew ?_ | (with_reducible refine grew_set ?_ (by first | exact Nat.le_refl _ | omega | (simp [go_sem]; done) | (simp [go_sem]; omega)))))⟩
                case measure => simp [intOf]; omega
            · obtain rfl : k = lines.length := by omega
              have hs := sOf_len D
              rw [HDl.out] at hs
              have HBn : Hid (BestR D T D.lines.length bb) := hid (by rw [HDl.out]; exact HB.out)
              rcases HB.out with ⟨e1, _⟩ | ⟨b1, e1, hb1, _⟩
              · subst e1
                have HN := hid (HPk.out.none HBn.out)
                have HFu := hid (HPk.out.full HN.out)
                go_wp2_with fail
                all_goals
                  go_ret2
                  exact ⟨ret_ib (by rw [HDL.out, HF.out]; have := HFu.out; rw [HDm.out] at this; exact this.symm) (by rw [HDL.out, HF.out]), by (repeat (first | with_reducible exact grew_refl _ | with_reducible assumption | with_reducible refine grew_split ?_ | with_reducible refine grew_mk ?_ | with_reducible refine grew_plus ?_ | with_reducible refine grew_alloc ?_ | with_reducible refine grew_drew ?_ | (with_reducible refine grew_set ?_ (by first | exact Nat.le_refl _ | omega | (simp [go_sem]; done) | (simp [go_sem]; omega)))))⟩
              · subst e1
                obtain ⟨b, off, hA, hb, hc⟩ := HP.out.at_ hb1
                obtain ⟨hc0, hc1⟩ := lcells hc hb1
                clear hc
                subst hA
                have HM1 := hid (HmB.out b1 hb1)
                have hmn := DayC.mins HO.out (k := b1) (by rw [HDl.out]; exact hb1)
                have hnn : ((b1 : Int) < 0) = False := eq_false (by omega)
                by_cases hle : left < lines[b1].minutes
                · have HFu := hid (HPk.out.stop HBn.out (by rw [HM1.out]; exact hle))
                  clear hmn
                  go_wp2_with fail
                  all_goals
                    go_ret2
                    exact ⟨ret_ib (by rw [HDL.out, HF.out]; have := HFu.out; rw [HDm.out] at this; exact this.symm) (by rw [HDL.out, HF.out]), by (repeat (first | with_reducible exact grew_refl _ | with_reducible assumption | with_reducible refine grew_split ?_ | with_reducible refine grew_mk ?_ | with_reducible refine grew_plus ?_ | with_reducible refine grew_alloc ?_ | with_reducible refine grew_drew ?_ | (with_reducible refine grew_set ?_ (by first | exact Nat.le_refl _ | omega | (simp [go_sem]; done) | (simp [go_sem]; omega)))))⟩
                · have HSt := hid (HPk.out.step HBn.out (by rw [HM1.out]; omega))
                  have hm0 : 1 ≤ lines[b1].minutes ∧ lines[b1].minutes ≤ 300 := by rw [← HM1.out]; unfold mAt; rw [dif_pos (by rw [HDl.out]; exact hb1)]; exact hmn
                  obtain ⟨m0, m1⟩ := hm0
                  clear hmn
                  go_wp2_with (at_builtin; go_loud (refine wpList_app rfl _ _ _ rfl 3 1 8 _ Tryz.underlying47 int_info rfl (by omega) (by omega) _ _ _ rfl (HOw.out.grew (by (repeat (first | with_reducible exact grew_refl _ | with_reducible assumption | with_reducible refine grew_split ?_ | with_reducible refine grew_mk ?_ | with_reducible refine grew_plus ?_ | with_reducible refine grew_alloc ?_ | with_reducible refine grew_drew ?_ | (with_reducible refine grew_set ?_ (by first | exact Nat.le_refl _ | omega | (simp [go_sem]; done) | (simp [go_sem]; omega))))))) (by (repeat (first | with_reducible exact grew_refl _ | with_reducible assumption | with_reducible refine grew_split ?_ | with_reducible refine grew_mk ?_ | with_reducible refine grew_plus ?_ | with_reducible refine grew_alloc ?_ | with_reducible refine grew_drew ?_ | (with_reducible refine grew_set ?_ (by first | exact Nat.le_refl _ | omega | (simp [go_sem]; done) | (simp [go_sem]; omega)))))) (by omega) _ (b1 : Int) _ rfl rfl (by intro j u hj; match j, hj with | 0, hj => simp [intRow] at hj; subst hj; simp [Addr.add, go_sem]) (by simp [intRow, Value.oneCell']) ?_); intro A9 c9 g9 HO9)
                  go_roundw
                  case rel =>
                    have hst := HSt.out
                    rw [HM1.out] at hst
                    exact ⟨T ++ [(b1 : Int)], A9, c9, left - lines[b1].minutes, vsl (by simp), vint (by omega), HO9.grew (by (repeat (first | with_reducible exact grew_refl _ | with_reducible assumption | with_reducible refine grew_split ?_ | with_reducible refine grew_mk ?_ | with_reducible refine grew_plus ?_ | with_reducible refine grew_alloc ?_ | with_reducible refine grew_drew ?_ | (with_reducible refine grew_set ?_ (by first | exact Nat.le_refl _ | omega | (simp [go_sem]; done) | (simp [go_sem]; omega)))))), hst, by omega, by omega, by simp; omega, by (repeat (first | with_reducible exact grew_refl _ | with_reducible assumption | with_reducible refine grew_split ?_ | with_reducible refine grew_mk ?_ | with_reducible refine grew_plus ?_ | with_reducible refine grew_alloc ?_ | with_reducible refine grew_drew ?_ | (with_reducible refine grew_set ?_ (by first | exact Nat.le_refl _ | omega | (simp [go_sem]; done) | (simp [go_sem]; omega)))))⟩
                  case measure => simp [slLen]; omega
        · go_wp2_with fail
          go_ret2
          have hs := sOf_len D
          rw [HDl.out] at hs
          have ht := HPk.out.2.1
          exact ⟨ret_ib (by rw [HDL.out, HF.out]; have := HPk.out.full (by omega); rw [HDm.out] at this; exact this.symm) (by rw [HDL.out, HF.out]), by (repeat (first | with_reducible exact grew_refl _ | with_reducible assumption | with_reducible refine grew_split ?_ | with_reducible refine grew_mk ?_ | with_reducible refine grew_plus ?_ | with_reducible refine grew_alloc ?_ | with_reducible refine grew_drew ?_ | (with_reducible refine grew_set ?_ (by first | exact Nat.le_refl _ | omega | (simp [go_sem]; done) | (simp [go_sem]; omega)))))⟩
end Go.Proofs.YtecghfcgahgfiaaGreatDoor
/- The commands that change nothing, in both packages. -/
namespace Go.Proofs.YtecghfcgahgfiaaGreatDoor
open Go.RowKit

theorem leftF_good {d : DayC} (h : d.ok = true) : ∃ n : Int, leftF d = (n, true) ∧ 0 ≤ n ∧ n ≤ 2400 := by
  have h1 := leftTo_bound h d.lines.length (Nat.le_refl _)
  have h2 := DayC.bounds h
  exact ⟨leftTo d d.lines.length, by simp [leftF, h], by omega, by omega⟩
theorem mostF_good {d : DayC} (h : d.ok = true) : ∃ n : Int, mostF d = (n, true) ∧ 0 ≤ n ∧ n ≤ 8 := by
  have h2 := DayC.bounds h
  have h1 := greedy_bounds h (1440 - d.minute) (by omega) (sOf d).length
  have h3 := sOf_len d
  exact ⟨(greedy (sOf d) (1440 - d.minute) (sOf d).length).1, by simp [mostF, h], by omega, by omega⟩
theorem todoF_one {d : DayC} : ∀ y ∈ todoF d, -1000000000000 ≤ y ∧ y ≤ 1000000000000 := by
  have key : ∀ k, k ≤ 8 → ∀ y ∈ todoTo d.lines k, 1 ≤ y ∧ y ≤ 8 := by
    intro k
    induction k with
    | zero => intro _ y hy; simp [todoTo] at hy
    | succ k ih =>
      intro hk y hy
      simp only [todoTo] at hy
      split at hy
      · exact ih (by omega) y hy
      · rcases List.mem_append.1 hy with hy | hy
        · exact ih (by omega) y hy
        · simp at hy; omega
  intro y hy
  unfold todoF at hy
  split at hy
  · rename_i h
    have h2 := DayC.bounds h
    have := key _ h2.2.2.2.2.2.1 y hy
    omega
  · simp at hy
theorem ret_sb1 {r : ByteArray} {o : Option ByteArray} {z : ByteArray} (h : o = some r) : Ending.returned (.tuple #[.string r, .bool true]) = .returned (.tuple #[.string (o.getD z), .bool o.isSome]) := by rw [h]; rfl
theorem ret_sb0 {o : Option ByteArray} {z : ByteArray} (h : o = none) : Ending.returned (.tuple #[.string z, .bool false]) = .returned (.tuple #[.string (o.getD z), .bool o.isSome]) := by rw [h]; rfl
theorem ret_s1 {r : ByteArray} {o : Option ByteArray} {z : ByteArray} (h : o = some r) : Ending.returned (.string r) = .returned (.string (o.getD z)) := by rw [h]; rfl
theorem ret_s0 {o : Option ByteArray} {z : ByteArray} (h : o = none) : Ending.returned (.string z) = .returned (.string (o.getD z)) := by rw [h]; rfl
/-- No text is two words. -/
theorem not_also {s : ByteArray} {l m : List UInt8} (h : (s.toList == l) = true) (hne : (l == m) = false) : (s.toList == m) = false := toList_one h hne
set_option maxHeartbeats 4000000 in
theorem i_answer (v : DayV) (s : ByteArray) (w : World) (hv : v.At w) (hok : v.core.ok = true) (hT : Tab w) :
    Calls Tryz.prog 70 #[v.val, .string s] w fun e w' => e = .returned (.tuple #[.string ((doAsk v.core s).getD ⟨#[]⟩), .bool (doAsk v.core s).isSome]) ∧ ∃ g, w' = plus w g := by
  have HV := hid hv
  have HT := hid hT
  have HK := hid hok
  clear hv hT hok
  have hl8 := todoF_len v.core
  cases h1 : (s.toList == [100, 97, 121])
  · cases h2 : (s.toList == [116, 111, 100, 111])
    · cases h3 : (s.toList == [109, 105, 110, 117, 116, 101, 115])
      · cases h4 : (s.toList == [103, 111, 111, 100])
        · cases h5 : (s.toList == [109, 111, 115, 116])
          · have HF := hid (show doAsk v.core s = none by simp only [doAsk, wordIs, h1, h2, h3, h4, h5]; rfl)
            go_enter Tryz.func70, Tryz.ntmps70
            go_wp2_with fail
            go_ret2
            exact ⟨ret_sb0 HF.out, by (repeat (first | with_reducible exact grew_refl _ | with_reducible assumption | with_reducible refine grew_split ?_ | with_reducible refine grew_mk ?_ | with_reducible refine grew_plus ?_ | with_reducible refine grew_alloc ?_ | with_reducible refine grew_drew ?_ | (with_reducible refine grew_set ?_ (by first | exact Nat.le_refl _ | omega | (simp [go_sem]; done) | (simp [go_sem]; omega)))))⟩
          · obtain ⟨n, hn, n0, n1⟩ := mostF_good HK.out
            have HF := hid (show doAsk v.core s = some (num n) by simp only [doAsk, wordIs, h1, h2, h3, h4, h5, hn]; rfl)
            have HN := hid hn
            clear hn
            go_enter Tryz.func70, Tryz.ntmps70
            go_wp2_with fail
            refine (i_MostLines v _ (HV.out.grew (by (repeat (first | with_reducible exact grew_refl _ | with_reducible assumption | with_reducible refine grew_split ?_ | with_reducible refine grew_mk ?_ | with_reducible refine grew_plus ?_ | with_reducible refine grew_alloc ?_ | with_reducible refine grew_drew ?_ | (with_reducible refine grew_set ?_ (by first | exact Nat.le_refl _ | omega | (simp [go_sem]; done) | (simp [go_sem]; omega)))))))).mono ?_
            rw [HN.out]
            (rintro e w' ⟨rfl, gx, rfl⟩)
            go_wp2_with fail
            refine (i_Itoa n _ (by omega) (by omega) (HT.out.grew (by (repeat (first | with_reducible exact grew_refl _ | with_reducible assumption | with_reducible refine grew_split ?_ | with_reducible refine grew_mk ?_ | with_reducible refine grew_plus ?_ | with_reducible refine grew_alloc ?_ | with_reducible refine grew_drew ?_ | (with_reducible refine grew_set ?_ (by first | exact Nat.le_refl _ | omega | (simp [go_sem]; done) | (simp [go_sem]; omega)))))))).mono ?_
            (rintro e w' ⟨rfl, gx, rfl⟩)
            go_wp2_with fail
            go_ret2
            exact ⟨ret_sb1 HF.out, by (repeat (first | with_reducible exact grew_refl _ | with_reducible assumption | with_reducible refine grew_split ?_ | with_reducible refine grew_mk ?_ | with_reducible refine grew_plus ?_ | with_reducible refine grew_alloc ?_ | with_reducible refine grew_drew ?_ | (with_reducible refine grew_set ?_ (by first | exact Nat.le_refl _ | omega | (simp [go_sem]; done) | (simp [go_sem]; omega)))))⟩
        · cases hc : castB v.core
          · have HF := hid (show doAsk v.core s = some (bs [110, 111]) by simp only [doAsk, wordIs, h1, h2, h3, h4, hc]; rfl)
            have HC := hid hc
            clear hc
            go_enter Tryz.func70, Tryz.ntmps70
            go_wp2_with fail
            refine (i_castIsGood v _ HC.out _ HK.out).mono ?_
            (rintro e w' ⟨rfl, gx, rfl⟩)
            go_wp2_with fail
            go_ret2
            exact ⟨ret_sb1 HF.out, by (repeat (first | with_reducible exact grew_refl _ | with_reducible assumption | with_reducible refine grew_split ?_ | with_reducible refine grew_mk ?_ | with_reducible refine grew_plus ?_ | with_reducible refine grew_alloc ?_ | with_reducible refine grew_drew ?_ | (with_reducible refine grew_set ?_ (by first | exact Nat.le_refl _ | omega | (simp [go_sem]; done) | (simp [go_sem]; omega)))))⟩
          · have HF := hid (show doAsk v.core s = some (bs [121, 101, 115]) by simp only [doAsk, wordIs, h1, h2, h3, h4, hc]; rfl)
            have HC := hid hc
            clear hc
            go_enter Tryz.func70, Tryz.ntmps70
            go_wp2_with fail
            refine (i_castIsGood v _ HC.out _ HK.out).mono ?_
            (rintro e w' ⟨rfl, gx, rfl⟩)
            go_wp2_with fail
            go_ret2
            exact ⟨ret_sb1 HF.out, by (repeat (first | with_reducible exact grew_refl _ | with_reducible assumption | with_reducible refine grew_split ?_ | with_reducible refine grew_mk ?_ | with_reducible refine grew_plus ?_ | with_reducible refine grew_alloc ?_ | with_reducible refine grew_drew ?_ | (with_reducible refine grew_set ?_ (by first | exact Nat.le_refl _ | omega | (simp [go_sem]; done) | (simp [go_sem]; omega)))))⟩
      · obtain ⟨n, hn, n0, n1⟩ := leftF_good HK.out
        have HF := hid (show doAsk v.core s = some (num n) by simp only [doAsk, wordIs, h1, h2, h3, hn]; rfl)
        have HN := hid hn
        clear hn
        go_enter Tryz.func70, Tryz.ntmps70
        go_wp2_with fail
        refine (i_SurveyMinutesLeft v _ (HV.out.grew (by (repeat (first | with_reducible exact grew_refl _ | with_reducible assumption | with_reducible refine grew_split ?_ | with_reducible refine grew_mk ?_ | with_reducible refine grew_plus ?_ | with_reducible refine grew_alloc ?_ | with_reducible refine grew_drew ?_ | (with_reducible refine grew_set ?_ (by first | exact Nat.le_refl _ | omega | (simp [go_sem]; done) | (simp [go_sem]; omega)))))))).mono ?_
        rw [HN.out]
        (rintro e w' ⟨rfl, gx, rfl⟩)
        go_wp2_with fail
        refine (i_Itoa n _ (by omega) (by omega) (HT.out.grew (by (repeat (first | with_reducible exact grew_refl _ | with_reducible assumption | with_reducible refine grew_split ?_ | with_reducible refine grew_mk ?_ | with_reducible refine grew_plus ?_ | with_reducible refine grew_alloc ?_ | with_reducible refine grew_drew ?_ | (with_reducible refine grew_set ?_ (by first | exact Nat.le_refl _ | omega | (simp [go_sem]; done) | (simp [go_sem]; omega)))))))).mono ?_
        (rintro e w' ⟨rfl, gx, rfl⟩)
        go_wp2_with fail
        go_ret2
        exact ⟨ret_sb1 HF.out, by (repeat (first | with_reducible exact grew_refl _ | with_reducible assumption | with_reducible refine grew_split ?_ | with_reducible refine grew_mk ?_ | with_reducible refine grew_plus ?_ | with_reducible refine grew_alloc ?_ | with_reducible refine grew_drew ?_ | (with_reducible refine grew_set ?_ (by first | exact Nat.le_refl _ | omega | (simp [go_sem]; done) | (simp [go_sem]; omega)))))⟩
    · have HF := hid (show doAsk v.core s = some (listG (todoF v.core)) by simp only [doAsk, wordIs, h1, h2]; rfl)
      go_enter Tryz.func70, Tryz.ntmps70
      go_wp2_with fail
      refine (i_LinesToDo v _ (HV.out.grew (by (repeat (first | with_reducible exact grew_refl _ | with_reducible assumption | with_reducible refine grew_split ?_ | with_reducible refine grew_mk ?_ | with_reducible refine grew_plus ?_ | with_reducible refine grew_alloc ?_ | with_reducible refine grew_drew ?_ | (with_reducible refine grew_set ?_ (by first | exact Nat.le_refl _ | omega | (simp [go_sem]; done) | (simp [go_sem]; omega)))))))).mono ?_
      rw [HK.out]
      rintro e w' ⟨⟨A1, c1, rfl, hO⟩, g1, rfl⟩
      have O1 := hid (hO.sl intRow_len)
      clear hO
      go_wp2_with fail
      refine (i_listText (todoF v.core) A1 c1 _ (O1.out.grew (by (repeat (first | with_reducible exact grew_refl _ | with_reducible assumption | with_reducible refine grew_split ?_ | with_reducible refine grew_mk ?_ | with_reducible refine grew_plus ?_ | with_reducible refine grew_alloc ?_ | with_reducible refine grew_drew ?_ | (with_reducible refine grew_set ?_ (by first | exact Nat.le_refl _ | omega | (simp [go_sem]; done) | (simp [go_sem]; omega))))))) (by omega) todoF_one (HT.out.grew (by (repeat (first | with_reducible exact grew_refl _ | with_reducible assumption | with_reducible refine grew_split ?_ | with_reducible refine grew_mk ?_ | with_reducible refine grew_plus ?_ | with_reducible refine grew_alloc ?_ | with_reducible refine grew_drew ?_ | (with_reducible refine grew_set ?_ (by first | exact Nat.le_refl _ | omega | (simp [go_sem]; done) | (simp [go_sem]; omega)))))))).mono ?_
      (rintro e w' ⟨rfl, gx, rfl⟩)
      go_wp2_with fail
      go_ret2
      exact ⟨ret_sb1 HF.out, by (repeat (first | with_reducible exact grew_refl _ | with_reducible assumption | with_reducible refine grew_split ?_ | with_reducible refine grew_mk ?_ | with_reducible refine grew_plus ?_ | with_reducible refine grew_alloc ?_ | with_reducible refine grew_drew ?_ | (with_reducible refine grew_set ?_ (by first | exact Nat.le_refl _ | omega | (simp [go_sem]; done) | (simp [go_sem]; omega)))))⟩
  · have HF := hid (show doAsk v.core s = some (textC v.core) by simp only [doAsk, wordIs, h1]; rfl)
    have HTX : Hid (textF v.core = (textC v.core, true)) := hid (by simp [textF, HK.out])
    go_enter Tryz.func70, Tryz.ntmps70
    go_wp2_with fail
    refine (i_SurveyDayText v _ (HV.out.grew (by (repeat (first | with_reducible exact grew_refl _ | with_reducible assumption | with_reducible refine grew_split ?_ | with_reducible refine grew_mk ?_ | with_reducible refine grew_plus ?_ | with_reducible refine grew_alloc ?_ | with_reducible refine grew_drew ?_ | (with_reducible refine grew_set ?_ (by first | exact Nat.le_refl _ | omega | (simp [go_sem]; done) | (simp [go_sem]; omega))))))) (HT.out.grew (by (repeat (first | with_reducible exact grew_refl _ | with_reducible assumption | with_reducible refine grew_split ?_ | with_reducible refine grew_mk ?_ | with_reducible refine grew_plus ?_ | with_reducible refine grew_alloc ?_ | with_reducible refine grew_drew ?_ | (with_reducible refine grew_set ?_ (by first | exact Nat.le_refl _ | omega | (simp [go_sem]; done) | (simp [go_sem]; omega)))))))).mono ?_
    rw [HTX.out]
    (rintro e w' ⟨rfl, gx, rfl⟩)
    go_wp2_with fail
    go_ret2
    exact ⟨ret_sb1 HF.out, by (repeat (first | with_reducible exact grew_refl _ | with_reducible assumption | with_reducible refine grew_split ?_ | with_reducible refine grew_mk ?_ | with_reducible refine grew_plus ?_ | with_reducible refine grew_alloc ?_ | with_reducible refine grew_drew ?_ | (with_reducible refine grew_set ?_ (by first | exact Nat.le_refl _ | omega | (simp [go_sem]; done) | (simp [go_sem]; omega)))))⟩
set_option maxHeartbeats 4000000 in
theorem s_l28Word (v : DayV) (s : ByteArray) (w : World) (hv : v.At w) (hok : v.core.ok = true) :
    Calls Tryz.prog 80 #[v.val, .string s] w fun e w' => e = .returned (.string ((doAsk v.core s).getD (bs [63]))) ∧ ∃ g, w' = plus w g := by
  have HV := hid hv
  have HK := hid hok
  clear hv hok
  have hl8 := todoF_len v.core
  cases h1 : (s.toList == [100, 97, 121])
  · cases h2 : (s.toList == [116, 111, 100, 111])
    · cases h3 : (s.toList == [109, 105, 110, 117, 116, 101, 115])
      · cases h4 : (s.toList == [103, 111, 111, 100])
        · cases h5 : (s.toList == [109, 111, 115, 116])
          · have HF := hid (show doAsk v.core s = none by simp only [doAsk, wordIs, h1, h2, h3, h4, h5]; rfl)
            go_enter Tryz.func80, Tryz.ntmps80
            go_wp2_with fail
            go_ret
            exact ⟨ret_s0 HF.out, by (repeat (first | with_reducible exact grew_refl _ | with_reducible assumption | with_reducible refine grew_split ?_ | with_reducible refine grew_mk ?_ | with_reducible refine grew_plus ?_ | with_reducible refine grew_alloc ?_ | with_reducible refine grew_drew ?_ | (with_reducible refine grew_set ?_ (by first | exact Nat.le_refl _ | omega | (simp [go_sem]; done) | (simp [go_sem]; omega)))))⟩
          · obtain ⟨n, hn, n0, n1⟩ := mostF_good HK.out
            have HF := hid (show doAsk v.core s = some (num n) by simp only [doAsk, wordIs, h1, h2, h3, h4, h5, hn]; rfl)
            have HN := hid hn
            clear hn
            go_enter Tryz.func80, Tryz.ntmps80
            go_wp2_with fail
            refine (s_MostLines v _ (HV.out.grew (by (repeat (first | with_reducible exact grew_refl _ | with_reducible assumption | with_reducible refine grew_split ?_ | with_reducible refine grew_mk ?_ | with_reducible refine grew_plus ?_ | with_reducible refine grew_alloc ?_ | with_reducible refine grew_drew ?_ | (with_reducible refine grew_set ?_ (by first | exact Nat.le_refl _ | omega | (simp [go_sem]; done) | (simp [go_sem]; omega)))))))).mono ?_
            rw [HN.out]
            (rintro e w' ⟨rfl, gx, rfl⟩)
            go_wp2_with fail
            refine (s_l1Num n _ (by omega) (by omega)).mono ?_
            (rintro e w' ⟨rfl, gx, rfl⟩)
            go_wp2_with fail
            go_ret
            exact ⟨ret_s1 HF.out, by (repeat (first | with_reducible exact grew_refl _ | with_reducible assumption | with_reducible refine grew_split ?_ | with_reducible refine grew_mk ?_ | with_reducible refine grew_plus ?_ | with_reducible refine grew_alloc ?_ | with_reducible refine grew_drew ?_ | (with_reducible refine grew_set ?_ (by first | exact Nat.le_refl _ | omega | (simp [go_sem]; done) | (simp [go_sem]; omega)))))⟩
        · cases hc : castB v.core
          · have HF := hid (show doAsk v.core s = some (bs [110, 111]) by simp only [doAsk, wordIs, h1, h2, h3, h4, hc]; rfl)
            have HC := hid hc
            clear hc
            go_enter Tryz.func80, Tryz.ntmps80
            go_wp2_with fail
            refine (s_l25Cast v _ HC.out _ HK.out).mono ?_
            (rintro e w' ⟨rfl, gx, rfl⟩)
            go_wp2_with fail
            go_ret
            exact ⟨ret_s1 HF.out, by (repeat (first | with_reducible exact grew_refl _ | with_reducible assumption | with_reducible refine grew_split ?_ | with_reducible refine grew_mk ?_ | with_reducible refine grew_plus ?_ | with_reducible refine grew_alloc ?_ | with_reducible refine grew_drew ?_ | (with_reducible refine grew_set ?_ (by first | exact Nat.le_refl _ | omega | (simp [go_sem]; done) | (simp [go_sem]; omega)))))⟩
          · have HF := hid (show doAsk v.core s = some (bs [121, 101, 115]) by simp only [doAsk, wordIs, h1, h2, h3, h4, hc]; rfl)
            have HC := hid hc
            clear hc
            go_enter Tryz.func80, Tryz.ntmps80
            go_wp2_with fail
            refine (s_l25Cast v _ HC.out _ HK.out).mono ?_
            (rintro e w' ⟨rfl, gx, rfl⟩)
            go_wp2_with fail
            go_ret
            exact ⟨ret_s1 HF.out, by (repeat (first | with_reducible exact grew_refl _ | with_reducible assumption | with_reducible refine grew_split ?_ | with_reducible refine grew_mk ?_ | with_reducible refine grew_plus ?_ | with_reducible refine grew_alloc ?_ | with_reducible refine grew_drew ?_ | (with_reducible refine grew_set ?_ (by first | exact Nat.le_refl _ | omega | (simp [go_sem]; done) | (simp [go_sem]; omega)))))⟩
      · obtain ⟨n, hn, n0, n1⟩ := leftF_good HK.out
        have HF := hid (show doAsk v.core s = some (num n) by simp only [doAsk, wordIs, h1, h2, h3, hn]; rfl)
        have HN := hid hn
        clear hn
        go_enter Tryz.func80, Tryz.ntmps80
        go_wp2_with fail
        refine (s_SurveyMinutesLeft v _ (HV.out.grew (by (repeat (first | with_reducible exact grew_refl _ | with_reducible assumption | with_reducible refine grew_split ?_ | with_reducible refine grew_mk ?_ | with_reducible refine grew_plus ?_ | with_reducible refine grew_alloc ?_ | with_reducible refine grew_drew ?_ | (with_reducible refine grew_set ?_ (by first | exact Nat.le_refl _ | omega | (simp [go_sem]; done) | (simp [go_sem]; omega)))))))).mono ?_
        rw [HN.out]
        (rintro e w' ⟨rfl, gx, rfl⟩)
        go_wp2_with fail
        refine (s_l1Num n _ (by omega) (by omega)).mono ?_
        (rintro e w' ⟨rfl, gx, rfl⟩)
        go_wp2_with fail
        go_ret
        exact ⟨ret_s1 HF.out, by (repeat (first | with_reducible exact grew_refl _ | with_reducible assumption | with_reducible refine grew_split ?_ | with_reducible refine grew_mk ?_ | with_reducible refine grew_plus ?_ | with_reducible refine grew_alloc ?_ | with_reducible refine grew_drew ?_ | (with_reducible refine grew_set ?_ (by first | exact Nat.le_refl _ | omega | (simp [go_sem]; done) | (simp [go_sem]; omega)))))⟩
    · have HF := hid (show doAsk v.core s = some (listG (todoF v.core)) by simp only [doAsk, wordIs, h1, h2]; rfl)
      go_enter Tryz.func80, Tryz.ntmps80
      go_wp2_with fail
      refine (s_LinesToDo v _ (HV.out.grew (by (repeat (first | with_reducible exact grew_refl _ | with_reducible assumption | with_reducible refine grew_split ?_ | with_reducible refine grew_mk ?_ | with_reducible refine grew_plus ?_ | with_reducible refine grew_alloc ?_ | with_reducible refine grew_drew ?_ | (with_reducible refine grew_set ?_ (by first | exact Nat.le_refl _ | omega | (simp [go_sem]; done) | (simp [go_sem]; omega)))))))).mono ?_
      rw [HK.out]
      rintro e w' ⟨⟨A1, c1, rfl, hO⟩, g1, rfl⟩
      have O1 := hid (hO.sl intRow_len)
      clear hO
      go_wp2_with fail
      refine (s_l28List (todoF v.core) A1 c1 _ (O1.out.grew (by (repeat (first | with_reducible exact grew_refl _ | with_reducible assumption | with_reducible refine grew_split ?_ | with_reducible refine grew_mk ?_ | with_reducible refine grew_plus ?_ | with_reducible refine grew_alloc ?_ | with_reducible refine grew_drew ?_ | (with_reducible refine grew_set ?_ (by first | exact Nat.le_refl _ | omega | (simp [go_sem]; done) | (simp [go_sem]; omega))))))) (by omega) todoF_one).mono ?_
      (rintro e w' ⟨rfl, gx, rfl⟩)
      go_wp2_with fail
      go_ret
      exact ⟨ret_s1 HF.out, by (repeat (first | with_reducible exact grew_refl _ | with_reducible assumption | with_reducible refine grew_split ?_ | with_reducible refine grew_mk ?_ | with_reducible refine grew_plus ?_ | with_reducible refine grew_alloc ?_ | with_reducible refine grew_drew ?_ | (with_reducible refine grew_set ?_ (by first | exact Nat.le_refl _ | omega | (simp [go_sem]; done) | (simp [go_sem]; omega)))))⟩
  · have HF := hid (show doAsk v.core s = some (textC v.core) by simp only [doAsk, wordIs, h1]; rfl)
    go_enter Tryz.func80, Tryz.ntmps80
    go_wp2_with fail
    refine (s_l25Text v _ (HV.out.grew (by (repeat (first | with_reducible exact grew_refl _ | with_reducible assumption | with_reducible refine grew_split ?_ | with_reducible refine grew_mk ?_ | with_reducible refine grew_plus ?_ | with_reducible refine grew_alloc ?_ | with_reducible refine grew_drew ?_ | (with_reducible refine grew_set ?_ (by first | exact Nat.le_refl _ | omega | (simp [go_sem]; done) | (simp [go_sem]; omega))))))) HK.out).mono ?_
    (rintro e w' ⟨rfl, gx, rfl⟩)
    go_wp2_with fail
    go_ret
    exact ⟨ret_s1 HF.out, by (repeat (first | with_reducible exact grew_refl _ | with_reducible assumption | with_reducible refine grew_split ?_ | with_reducible refine grew_mk ?_ | with_reducible refine grew_plus ?_ | with_reducible refine grew_alloc ?_ | with_reducible refine grew_drew ?_ | (with_reducible refine grew_set ?_ (by first | exact Nat.le_refl _ | omega | (simp [go_sem]; done) | (simp [go_sem]; omega)))))⟩
end Go.Proofs.YtecghfcgahgfiaaGreatDoor
