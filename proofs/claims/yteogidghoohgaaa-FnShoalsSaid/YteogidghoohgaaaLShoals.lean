/- The law FnShoals: every area with a sounding is ranked, the share of all is at most the whole, and an area that is whole takes no more time. No condition. -/
import Derived.Test.YteogidghoohgaaaRows
import Derived.Test.YteogidghoohgaaaDw
import Derived.Test.YteogidghoohgaaaAy
import Derived.Test.YteogidghoohgaaaSh
import Derived.Test.YteogidghoohgaaaOpenCode
namespace Go.Proofs.Yteogidghoohgaaa
open Go.ChangeShapes Go.WideShapes Go.ChangeAt Go.RowKit Go.Deep Go.Joins
open Go.ChangeMaps (open_string shut_string)

theorem Code0.grew0 {w w' : World} {A : Option Addr} {bs : List Int} (h : Code0 w A bs) (hg : ∃ g, w' = plus w g) : Code0 w' A bs := ⟨h.sl.grew hg, h.ok, h.len⟩
set_option maxHeartbeats 4000000 in
set_option maxRecDepth 100000 in
theorem l_FnShoals (A : Option Addr) (c : Nat) (bs : List Int) (w : World) (hA : Sl w 1 byteRow A bs) (hb : ∀ x ∈ bs, 0 ≤ x ∧ x ≤ 255) (_hl : bs.length ≤ maxLen) :
    Calls Try.prog 6 #[.slice A bs.length c] w fun e' w' => e' = .returned (.bool true) ∧ ∃ g, w' = plus w g := by
  have HA := hid hA
  have HB := hid hb
  clear hA hb
  by_cases hbig : (65536 : Int) < (bs.length : Int)
  · go_enter Try.func6, Try.ntmps6
    go_wp2_with (go_at_call 20; refine (l_rBig _ _ _ _).mono ?_; (rintro e w' ⟨rfl, rfl⟩))
    go_ret
    exact ⟨rfl, by (repeat (first | with_reducible exact grew_refl _ | with_reducible assumption | with_reducible refine grew_split ?_ | with_reducible refine grew_mk ?_ | with_reducible refine grew_plus ?_ | with_reducible refine grew_alloc ?_ | with_reducible refine grew_drew ?_ | (with_reducible refine grew_set ?_ (by first | exact Nat.le_refl _ | omega | (simp [go_sem]; done) | (simp [go_sem]; omega)))))⟩
  have HC := hid (show Code0 w A bs from ⟨HA.out, HB.out, by omega⟩)
  go_enter Try.func6, Try.ntmps6
  go_wp2_with (go_at_call 20; refine (l_rBig _ _ _ _).mono ?_; (rintro e w' ⟨rfl, rfl⟩))
  refine (s_DrawShoalest A c bs _ HC.out).mono ?_
  rintro e W1 ⟨⟨B, d, L, rfl, hO, hl12, hs⟩, hg⟩
  have HL := hid hO.sl
  have HS := hid (fun r hr => Nat.le_trans (hs r hr) (show 20 ≤ maxLen by unfold maxLen; omega))
  have HG := hid hg
  clear hO hs hg
  have hRl := namesF_len (ch := sounded) (gt := gtSh) (l := L)
  obtain ⟨R, o, hR⟩ : ∃ R o, namesF sounded gtSh L = (R, o) := ⟨_, _, rfl⟩
  rw [hR] at hRl
  simp only at hRl
  have HR := hid hR
  have t2 : (o != o) = false := by simp
  have HT := hid (show o = true → ∀ k (hk : k < L.length), hasT R L[k].nm = sounded L[k] from fun e k hk => by
    have hg : areasB L = true := by
      cases hg : areasB L
      · rw [namesF_bad hg] at hR; cases hR; cases e
      · rfl
    rw [namesF_good hg] at hR
    cases hR
    exact ordF_has hg hk)
  clear hR
  go_wp2_with fail
  refine (i_ShoalestAreas L B d _ HL.out HS.out (by unfold maxLen; omega)).mono ?_
  rw [HR.out]
  rintro e w' ⟨⟨A1, d1, rfl, hO1⟩, g1, rfl⟩
  have O1 := hid hO1.sl
  clear hO1
  go_wp2_with fail
  refine (s_ShoalestAreas L B d _ (HL.out.grew (by (repeat (first | with_reducible exact grew_refl _ | with_reducible assumption | with_reducible refine grew_split ?_ | with_reducible refine grew_mk ?_ | with_reducible refine grew_plus ?_ | with_reducible refine grew_alloc ?_ | with_reducible refine grew_drew ?_ | (with_reducible refine grew_set ?_ (by first | exact Nat.le_refl _ | omega | (simp [go_sem]; done) | (simp [go_sem]; omega))))))) HS.out (by unfold maxLen; omega)).mono ?_
  rw [HR.out]
  rintro e w' ⟨⟨A2, d2, rfl, hO2⟩, g2, rfl⟩
  (try rw [plus_plus] at hO2)
  have O2 := hid hO2.sl
  clear hO2
  go_wp2_with fail
  refine (l_rTexts R A1 A2 d1 d2 _ (O1.out.grew (by (repeat (first | with_reducible exact grew_refl _ | with_reducible assumption | with_reducible refine grew_split ?_ | with_reducible refine grew_mk ?_ | with_reducible refine grew_plus ?_ | with_reducible refine grew_alloc ?_ | with_reducible refine grew_drew ?_ | (with_reducible refine grew_set ?_ (by first | exact Nat.le_refl _ | omega | (simp [go_sem]; done) | (simp [go_sem]; omega))))))) (O2.out.grew (by (repeat (first | with_reducible exact grew_refl _ | with_reducible assumption | with_reducible refine grew_split ?_ | with_reducible refine grew_mk ?_ | with_reducible refine grew_plus ?_ | with_reducible refine grew_alloc ?_ | with_reducible refine grew_drew ?_ | (with_reducible refine grew_set ?_ (by first | exact Nat.le_refl _ | omega | (simp [go_sem]; done) | (simp [go_sem]; omega))))))) (by unfold maxLen; omega)).mono ?_
  (rintro e w' ⟨rfl, gx, rfl⟩)
  go_upto_block 0 with fail
  refine opq_wp (fun W2 => Sl W2 1 strRow A1 R ∧ Sl W2 6 AreaR.row B L ∧ ∃ g, W2 = plus w g) ⟨O1.out.grew (by (repeat (first | with_reducible exact grew_refl _ | with_reducible assumption | with_reducible refine grew_split ?_ | with_reducible refine grew_mk ?_ | with_reducible refine grew_plus ?_ | with_reducible refine grew_alloc ?_ | with_reducible refine grew_drew ?_ | (with_reducible refine grew_set ?_ (by first | exact Nat.le_refl _ | omega | (simp [go_sem]; done) | (simp [go_sem]; omega)))))), HL.out.grew (by (repeat (first | with_reducible exact grew_refl _ | with_reducible assumption | with_reducible refine grew_split ?_ | with_reducible refine grew_mk ?_ | with_reducible refine grew_plus ?_ | with_reducible refine grew_alloc ?_ | with_reducible refine grew_drew ?_ | (with_reducible refine grew_set ?_ (by first | exact Nat.le_refl _ | omega | (simp [go_sem]; done) | (simp [go_sem]; omega)))))), by have hg := HG.out; (repeat (first | with_reducible exact grew_refl _ | with_reducible assumption | with_reducible refine grew_split ?_ | with_reducible refine grew_mk ?_ | with_reducible refine grew_plus ?_ | with_reducible refine grew_alloc ?_ | with_reducible refine grew_drew ?_ | (with_reducible refine grew_set ?_ (by first | exact Nat.le_refl _ | omega | (simp [go_sem]; done) | (simp [go_sem]; omega)))))⟩ ?_
  rintro W2 ⟨hO1, hL2, hg2⟩
  have O1 := hid hO1
  have HL := hid hL2
  have HG := hid hg2
  clear hO1 hL2 hg2 O2
  go_cut [8] (fun _ wx => ∃ g, wx = plus W2 g)
  case first =>
    go_wp2_with fail
    go_loopw [8] (fun i wr => ∃ k : Nat, k ≤ L.length ∧ i = .int .i64 k ∧ ∃ g, wr = plus W2 g) (fun i _ => L.length - (intOf i).toNat)
    case atStart => exact ⟨0, Nat.zero_le _, rfl, by (repeat (first | with_reducible exact grew_refl _ | with_reducible assumption | with_reducible refine grew_split ?_ | with_reducible refine grew_mk ?_ | with_reducible refine grew_plus ?_ | with_reducible refine grew_alloc ?_ | with_reducible refine grew_drew ?_ | (with_reducible refine grew_set ?_ (by first | exact Nat.le_refl _ | omega | (simp [go_sem]; done) | (simp [go_sem]; omega)))))⟩
    case round =>
      obtain ⟨k, hk, rfl, gq, rfl⟩ := hrel
      cases o
      · by_cases hlt : k < L.length
        · go_wp2_with fail
          go_meet
          exact ⟨_, rfl⟩
        · go_wp2_with fail
          go_meet
          exact ⟨_, rfl⟩
      · by_cases hlt : k < L.length
        · obtain ⟨b0, off, rfl, hb0, hc⟩ := HL.out.at_ hlt
          obtain ⟨hc0, hc1, hc2, hc3, hc4, hc5⟩ := AreaR.cells6 hc hlt
          have hht : hasT R L[k].nm = decide (0 < L[k].cov) := HT.out rfl k hlt
          generalize hr : L[k] = r at hc0 hc1 hc2 hc3 hc4 hc5 hht
          have HHT := hid hht
          have hk0 : (0 : Int) ≤ (k : Int) := by omega
          have hk1 : (k : Int) < (L.length : Int) := by omega
          clear hc hr hht
          go_wp2_with fail
          (refine wp_region_calm (by kernel_rfl) (by kernel_rfl) ?_; (repeat' (first | go_big_quiet_step ((go_at_call 23; first | with_reducible exact calm_of (l_rHasText R r.nm _ HHT.out A1 d1 _ (O1.out.grew (by (repeat (first | with_reducible exact grew_refl _ | with_reducible assumption | with_reducible refine grew_split ?_ | with_reducible refine grew_mk ?_ | with_reducible refine grew_plus ?_ | with_reducible refine grew_alloc ?_ | with_reducible refine grew_drew ?_ | (with_reducible refine grew_set ?_ (by first | exact Nat.le_refl _ | omega | (simp [go_sem]; done) | (simp [go_sem]; omega))))))) (by unfold maxLen; omega)) | with_reducible exact calm_add (l_rHasText R r.nm _ HHT.out A1 d1 _ (O1.out.grew (by (repeat (first | with_reducible exact grew_refl _ | with_reducible assumption | with_reducible refine grew_split ?_ | with_reducible refine grew_mk ?_ | with_reducible refine grew_plus ?_ | with_reducible refine grew_alloc ?_ | with_reducible refine grew_drew ?_ | (with_reducible refine grew_set ?_ (by first | exact Nat.le_refl _ | omega | (simp [go_sem]; done) | (simp [go_sem]; omega))))))) (by unfold maxLen; omega)))) | (refine wpQuiet_step (fun K hK => ?_); go_simp; go_ite <;> go_simp <;> (first | (refine hK _ ?_; clear hK K) | (apply Exists.intro; refine ⟨fun _ => ?_, hK _ ?_⟩; ((go_at_call 23; first | with_reducible exact calm_of (l_rHasText R r.nm _ HHT.out A1 d1 _ (O1.out.grew (by (repeat (first | with_reducible exact grew_refl _ | with_reducible assumption | with_reducible refine grew_split ?_ | with_reducible refine grew_mk ?_ | with_reducible refine grew_plus ?_ | with_reducible refine grew_alloc ?_ | with_reducible refine grew_drew ?_ | (with_reducible refine grew_set ?_ (by first | exact Nat.le_refl _ | omega | (simp [go_sem]; done) | (simp [go_sem]; omega))))))) (by unfold maxLen; omega)) | with_reducible exact calm_add (l_rHasText R r.nm _ HHT.out A1 d1 _ (O1.out.grew (by (repeat (first | with_reducible exact grew_refl _ | with_reducible assumption | with_reducible refine grew_split ?_ | with_reducible refine grew_mk ?_ | with_reducible refine grew_plus ?_ | with_reducible refine grew_alloc ?_ | with_reducible refine grew_drew ?_ | (with_reducible refine grew_set ?_ (by first | exact Nat.le_refl _ | omega | (simp [go_sem]; done) | (simp [go_sem]; omega))))))) (by unfold maxLen; omega)))); clear hK K))))); all_goals (refine wpQuiet_nil ?_; intro _ hw'; obtain ⟨gq, hw''⟩ := hw'; subst hw''))
          go_wp2_with fail
          go_roundw
          case rel => exact ⟨k + 1, by omega, by go_num, by (repeat (first | with_reducible exact grew_refl _ | with_reducible assumption | with_reducible refine grew_split ?_ | with_reducible refine grew_mk ?_ | with_reducible refine grew_plus ?_ | with_reducible refine grew_alloc ?_ | with_reducible refine grew_drew ?_ | (with_reducible refine grew_set ?_ (by first | exact Nat.le_refl _ | omega | (simp [go_sem]; done) | (simp [go_sem]; omega)))))⟩
          case measure => simp [intOf]; omega
        · go_wp2_with fail
          go_meet
          exact ⟨_, rfl⟩
  case rest =>
    obtain ⟨gr, rfl⟩ := hcut
    clear t2 O1
    have hsl := share_le (l := L)
    obtain ⟨hsz1, hsz2⟩ := share_size (l := L)
    have hq := i_ShareOfAll L B d
    go_wp2_with fail
    refine (i_ShareOfAll L B d _ (HL.out.grew (by (repeat (first | with_reducible exact grew_refl _ | with_reducible assumption | with_reducible refine grew_split ?_ | with_reducible refine grew_mk ?_ | with_reducible refine grew_plus ?_ | with_reducible refine grew_alloc ?_ | with_reducible refine grew_drew ?_ | (with_reducible refine grew_set ?_ (by first | exact Nat.le_refl _ | omega | (simp [go_sem]; done) | (simp [go_sem]; omega))))))) HS.out (by unfold maxLen; omega)).mono ?_
    obtain ⟨num, den, fine, hN⟩ : ∃ num den fine, shareF L = (num, den, fine) := ⟨_, _, _, rfl⟩
    rw [hN] at hsl hsz1 hsz2
    rw [hN]
    simp only at hsl hsz1 hsz2
    have HN := hid hN
    have hsi : (num : Int) ≤ (den : Int) := by omega
    have hs0 : (0 : Int) ≤ (num : Int) := by omega
    have t3 : (fine != fine) = false := by simp
    clear hN hq
    (rintro e w' ⟨rfl, gx, rfl⟩)
    go_wp2_with fail
    refine (s_ShareOfAll L B d _ (HL.out.grew (by (repeat (first | with_reducible exact grew_refl _ | with_reducible assumption | with_reducible refine grew_split ?_ | with_reducible refine grew_mk ?_ | with_reducible refine grew_plus ?_ | with_reducible refine grew_alloc ?_ | with_reducible refine grew_drew ?_ | (with_reducible refine grew_set ?_ (by first | exact Nat.le_refl _ | omega | (simp [go_sem]; done) | (simp [go_sem]; omega))))))) HS.out (by unfold maxLen; omega)).mono ?_
    rw [HN.out]
    (rintro e w' ⟨rfl, gx, rfl⟩)
    have c1 : decide ((num : Int) < 0) = false := by simp
    have c2 : decide ((den : Int) < (num : Int)) = false := by simp; omega
    have c3 : decide (den < num) = false := by simp; omega
    go_upto_region 15 with fail
    go_cut [105] (fun q wx => q = .bool false ∧ ∃ g, wx = plus W2 g)
    case first =>
      cases fine
      all_goals
        go_wp2_with fail
        go_meet
        exact ⟨rfl, _, rfl⟩
    case rest =>
      obtain ⟨rfl, gr2, rfl⟩ := hcut
      have hg := HG.out
      have HC2 := hid (show Code0 (plus W2 gr2) A bs from ⟨HC.out.sl.grew (by (repeat (first | with_reducible exact grew_refl _ | with_reducible assumption | with_reducible refine grew_split ?_ | with_reducible refine grew_mk ?_ | with_reducible refine grew_plus ?_ | with_reducible refine grew_alloc ?_ | with_reducible refine grew_drew ?_ | (with_reducible refine grew_set ?_ (by first | exact Nat.le_refl _ | omega | (simp [go_sem]; done) | (simp [go_sem]; omega)))))), HC.out.ok, HC.out.len⟩)
      clear c1 c2 c3 hsl hsz1 hsz2 hsi hs0 t3 HL O1 HS
      go_wp2_with fail
      refine (s_DrawMinutes A c bs _ (HC2.out.grew0 (by (repeat (first | with_reducible exact grew_refl _ | with_reducible assumption | with_reducible refine grew_split ?_ | with_reducible refine grew_mk ?_ | with_reducible refine grew_plus ?_ | with_reducible refine grew_alloc ?_ | with_reducible refine grew_drew ?_ | (with_reducible refine grew_set ?_ (by first | exact Nat.le_refl _ | omega | (simp [go_sem]; done) | (simp [go_sem]; omega)))))))).mono ?_
      rintro e W3 ⟨⟨B3, d3, L3, nm, rfl, hO, hl3, hs3, hnm⟩, hg3⟩
      have HG3 := hid hg3
      have HL := hid hO.sl
      have HS := hid (fun r hr => Nat.le_trans (hs3 r hr) (show 20 ≤ maxLen by unfold maxLen; omega))
      have hb3 := minutesF_bound (l := L3) (s := nm)
      obtain ⟨m, told, hM⟩ : ∃ m told, minutesF L3 nm = (m, told) := ⟨_, _, rfl⟩
      have hlaw := fun (e : told = true) k (hk : k < L3.length) => minutes_of (l := L3) (s := nm) (m := m) (by rw [hM, e]) hk
      rw [hM] at hb3
      simp only at hb3
      obtain ⟨m0, m1⟩ := hb3
      have HM := hid hM
      have HLAW := hid hlaw
      have t4 : (told != told) = false := by simp
      clear hO hs3 hg3 hM hlaw
      go_wp2_with fail
      refine (i_MinutesToDo L3 B3 d3 nm _ HL.out HS.out (by unfold maxLen; omega)).mono ?_
      rw [HM.out]
      (rintro e w' ⟨rfl, gx, rfl⟩)
      go_wp2_with fail
      refine (s_MinutesToDo L3 B3 d3 nm _ (HL.out.grew (by (repeat (first | with_reducible exact grew_refl _ | with_reducible assumption | with_reducible refine grew_split ?_ | with_reducible refine grew_mk ?_ | with_reducible refine grew_plus ?_ | with_reducible refine grew_alloc ?_ | with_reducible refine grew_drew ?_ | (with_reducible refine grew_set ?_ (by first | exact Nat.le_refl _ | omega | (simp [go_sem]; done) | (simp [go_sem]; omega))))))) HS.out (by unfold maxLen; omega)).mono ?_
      rw [HM.out]
      (rintro e w' ⟨rfl, gx, rfl⟩)
      go_wp2_with fail
      have hgw := HG3.out
      go_loopw [21, 22] (fun i _ wr => ∃ k : Nat, k ≤ L3.length ∧ i = .int .i64 k ∧ ∃ g, wr = plus W3 g) (fun i _ _ => L3.length - (intOf i).toNat)
      case atStart => exact ⟨0, Nat.zero_le _, rfl, by (repeat (first | with_reducible exact grew_refl _ | with_reducible assumption | with_reducible refine grew_split ?_ | with_reducible refine grew_mk ?_ | with_reducible refine grew_plus ?_ | with_reducible refine grew_alloc ?_ | with_reducible refine grew_drew ?_ | (with_reducible refine grew_set ?_ (by first | exact Nat.le_refl _ | omega | (simp [go_sem]; done) | (simp [go_sem]; omega)))))⟩
      case round =>
        obtain ⟨k, hk, rfl, gq, rfl⟩ := hrel
        have HGW := hid (grew_two' hg (grew_two' (grew_refl _) (grew_two' ⟨gr2, rfl⟩ hgw)))
        clear hgw hg
        have hend : ∃ g, plus W3 gq = plus w g := by have h := HGW.out; (repeat (first | with_reducible exact grew_refl _ | with_reducible assumption | with_reducible refine grew_split ?_ | with_reducible refine grew_mk ?_ | with_reducible refine grew_plus ?_ | with_reducible refine grew_alloc ?_ | with_reducible refine grew_drew ?_ | (with_reducible refine grew_set ?_ (by first | exact Nat.le_refl _ | omega | (simp [go_sem]; done) | (simp [go_sem]; omega)))))
        have HEND := hid hend
        clear hend
        cases told
        · by_cases hlt : k < L3.length
          · go_wp2_with fail
            go_ret
            exact ⟨rfl, HEND.out⟩
          · go_wp2_with fail
            go_ret
            exact ⟨rfl, HEND.out⟩
        · by_cases hlt : k < L3.length
          · obtain ⟨b0, off, rfl, hb0, hc⟩ := HL.out.at_ hlt
            obtain ⟨hc0, hc1, hc2, hc3, hc4, hc5⟩ := AreaR.cells6 hc hlt
            have hlaw := HLAW.out rfl k hlt
            generalize hr : L3[k] = r at hc0 hc1 hc2 hc3 hc4 hc5 hlaw
            have HLW := hid hlaw
            clear hc hr hlaw
            cases hn : (r.nm.toList == nm.toList)
            · go_wp2_with fail
              go_roundw
              case rel => exact ⟨k + 1, by omega, by go_num, by (repeat (first | with_reducible exact grew_refl _ | with_reducible assumption | with_reducible refine grew_split ?_ | with_reducible refine grew_mk ?_ | with_reducible refine grew_plus ?_ | with_reducible refine grew_alloc ?_ | with_reducible refine grew_drew ?_ | (with_reducible refine grew_set ?_ (by first | exact Nat.le_refl _ | omega | (simp [go_sem]; done) | (simp [go_sem]; omega)))))⟩
              case measure => simp [intOf]; omega
            · obtain ⟨hok, hcv, hme⟩ := HLW.out (by simpa using hn)
              obtain ⟨a1, a2, a3, a4, a5, a6, a7, a8, a9, a10, _⟩ := AreaR.bounds hok
              obtain ⟨q1, q2⟩ := ceil_ge hcv hme
              have p0 : 0 ≤ r.minutes * (r.cells - r.cov) := Int.mul_nonneg a9 (by omega)
              have p1 : r.minutes * (r.cells - r.cov) ≤ 99999 * 9999 := Int.mul_le_mul a10 (by omega) (by omega) (by omega)
              have hcomm : r.minutes * (r.cells - r.cov) = (r.cells - r.cov) * r.minutes := Int.mul_comm _ _
              rw [hcomm] at p0 p1 q1 q2
              have q0 : 0 ≤ m * r.cov := by omega
              have q3 : m * r.cov ≤ 99999 * 9999 + 9999 := by omega
              have d1 : decide (m * r.cov < (r.cells - r.cov) * r.minutes) = false := by simp; omega
              by_cases hfull : r.cov = r.cells
              · have hf1 : (r.cov == r.cells) = true := by simp [hfull]
                have hm0 : m = 0 := by
                  rw [hme, hfull, Int.sub_self, Int.mul_zero, Int.zero_add]
                  exact Int.ediv_eq_zero_of_lt (by omega) (by omega)
                have hf2 : (m != 0) = false := by simp [hm0]
                clear hme hfull hm0 hcomm q1 q2
                go_wp2_with fail
                go_roundw
                case rel => exact ⟨k + 1, by omega, by go_num, by (repeat (first | with_reducible exact grew_refl _ | with_reducible assumption | with_reducible refine grew_split ?_ | with_reducible refine grew_mk ?_ | with_reducible refine grew_plus ?_ | with_reducible refine grew_alloc ?_ | with_reducible refine grew_drew ?_ | (with_reducible refine grew_set ?_ (by first | exact Nat.le_refl _ | omega | (simp [go_sem]; done) | (simp [go_sem]; omega)))))⟩
                case measure => simp [intOf]; omega
              · have hf1 : (r.cov == r.cells) = false := by simp [hfull]
                clear hme hcomm q1 q2 hfull
                go_wp2_with fail
                go_roundw
                case rel => exact ⟨k + 1, by omega, by go_num, by (repeat (first | with_reducible exact grew_refl _ | with_reducible assumption | with_reducible refine grew_split ?_ | with_reducible refine grew_mk ?_ | with_reducible refine grew_plus ?_ | with_reducible refine grew_alloc ?_ | with_reducible refine grew_drew ?_ | (with_reducible refine grew_set ?_ (by first | exact Nat.le_refl _ | omega | (simp [go_sem]; done) | (simp [go_sem]; omega)))))⟩
                case measure => simp [intOf]; omega
          · go_wp2_with fail
            go_ret
            exact ⟨rfl, HEND.out⟩
theorem fnShoals_own : ownKnob Try.prog.godebug = none := by kernel_rfl
theorem fnShoals_laidOut : laidOutB Try.prog = true := by kernel_rfl
set_option maxRecDepth 100000 in
theorem fnShoals_lifted (os : Os) (started : os.Started) (H : Type) (enc : TypeId × Value → H) :
    ReturnsInHanded {} Try.checked os 6 .any (Rows.fnShoalsSpec.pre6 enc Try.prog Try.f6 Rows.fnShoalsRow.domain false) (Rows.fnShoalsSpec.post enc Try.prog Try.f6 false true false false) := by
  refine returnsInHanded_of_change (C := Try.checked) fnShoals_own started (by kernel_rfl) Try.func6
    (ChangeSpec.witness6 (enc := enc) (C := Try.checked) false ⟨#[], #[.slice none 0 0], []⟩ 8 (by kernel_rfl) (by kernel_rfl) (by kernel_rfl) (by kernel_rfl)) ?_
  intro W base args ds gs before hval0 hW hcnd _
  have hval : ∀ (j : Nat) t v, Try.f6.params[j]? = some t → args[j]? = some v → Value.okWide Try.prog W .any base t v := hval0
  have hW' := hW
  obtain ⟨p, q, hA0, hV, rfl, hfz, hnd⟩ := hW
  have hA : DataW.TrodAll enc Try.prog W 0 (fun _ => true) true Try.f6.params.toList args.toList ds p := hA0
  rw [Try.params6] at hA hval
  obtain ⟨v0, vs0, d0, ds0, p0, q0, hargs, rfl, rfl, h0, r0⟩ := trodAll_cons hA
  obtain ⟨rfl, rfl, rfl⟩ := trodAll_nil r0
  obtain rfl : args = #[v0] := by cases args; simp_all
  obtain ⟨rfl, rfl⟩ := trodVars_none hV
  have k0 := h0
  have lt0 : ∀ x ∈ p0, x.block < W.heap.size := by obtain ⟨m, hm⟩ := k0; exact DataW.trod_lt m _ _ _ hm
  obtain ⟨A, c, l, rfl, hS, hb, hl⟩ := open_code (hval 0 34 v0 rfl rfl) h0
  clear hA0 hval0
  refine (l_FnShoals A c l W hS hb hl).mono fun e W' ⟨he, hg⟩ => ?_
  have bel := below_of_grew hg
  subst he
  exact ⟨_, rfl, _, _, _, [], _, [], hW', trodAll_mk1 (shut_bool Try.underlying4 _), (trodAll_cons_mk (Below.trod fnShoals_laidOut (by kernel_rfl) (of_decide_eq_true (by kernel_rfl)) k0 bel lt0) trodAll_mk0), rfl, bel.frame _, fun h => by cases h⟩
theorem fnShoals_over : Rows.fnShoalsRow.holds Try.pinned (OpenSpec.ofChange Rows.fnShoalsSpec) :=
  OpenClaim.holds_of_wide 6 Try.f6 rfl rfl rfl rfl rfl rfl rfl ⟨rfl, rfl, rfl, rfl, rfl⟩ rfl rfl rfl rfl rfl (by kernel_rfl) Try.func6 (by kernel_rfl)
    (of_decide_eq_true (by kernel_rfl)) (by unfold Func.isWrapper; first | (rw [if_pos (by decide +kernel)]; kernel_rfl) | (rw [if_neg (by decide +kernel)]; exact ⟨rfl, rfl⟩))
    (fun os started H enc _ => fnShoals_lifted os started H enc)
theorem fnShoals_holds : Rows.FnShoalsSaid := fnShoals_over
end Go.Proofs.Yteogidghoohgaaa
