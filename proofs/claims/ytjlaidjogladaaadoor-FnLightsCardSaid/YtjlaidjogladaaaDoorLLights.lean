/- The law FnLights: a light is lit again after its period, and the share that is lit is that of its moments. No condition beyond the row's own: the tables that strconv reads hold what they hold at the start. -/
import Derived.Test.YtjlaidjogladaaaDoorDoor
import Derived.Test.YtjlaidjogladaaaDoorN4
import Derived.Test.YtjlaidjogladaaaDoorFl1
import Derived.Test.YtjlaidjogladaaaDoorLy
import Derived.Test.YtjlaidjogladaaaDoorVr
import Derived.Test.YtjlaidjogladaaaDoorAl
import Derived.Deep.CutBlock
import Derived.Deep.DeepCutAuto
namespace Go.Proofs.YtjlaidjogladaaaDoor
open Go.ChangeShapes Go.WideShapes Go.ChangeAt Go.RowKit Go.Deep Go.Joins
open Go.ChangeMaps (open_string shut_string)

theorem period_facts (v : LightC) : ∃ p : Nat, periodF v = ((p : Int), v.ok) ∧ p ≤ 1600 ∧ (v.ok = true → p = per v.ph) := by
  unfold periodF
  cases h : v.ok
  · exact ⟨0, rfl, by omega, fun e => by cases e⟩
  · exact ⟨per v.ph, rfl, ((v.phok h).per).2, fun _ => rfl⟩
theorem share_snd (v : LightC) : (lshareF v).2.2 = v.ok := by
  unfold lshareF
  cases h : v.ok <;> simp
theorem again_law (v : LightC) (m : Int) (p : Nat) (hp : v.ok = true → p = per v.ph) : (isLitF v m).2 = true → (isLitF v (m + (p : Int))).2 = true → (isLitF v (m + (p : Int))).1 = (isLitF v m).1 := by
  unfold isLitF
  intro h1 h2
  split at h1
  · rename_i c1
    rw [if_pos c1]
    split at h2
    · rename_i c2
      rw [if_pos c2]
      simp only [Bool.and_eq_true] at c1
      simp only [hp c1.1, lit_again]
    · cases h2
  · cases h1
theorem small_lit (v : LightC) (k : Nat) (h : v.ok = true) (hk : k < per v.ph) : isLitF v (k : Int) = (litAt v.ph (k : Int), true) := by
  have h2 := ((v.phok h).per).2
  have hi : inB (k : Int) 0 1000000 = true := by simp [inB]; omega
  unfold isLitF
  rw [h, hi]
  simp only [Bool.and_self, if_true, lit_small v.ph k hk]
set_option maxHeartbeats 8000000 in
set_option maxRecDepth 100000 in
theorem l_FnLights (A : Option Addr) (c : Nat) (bs : List Int) (w : World) (hA : Sl w 1 byteRow A bs) (hb : ∀ x ∈ bs, 0 ≤ x ∧ x ≤ 255) (_hl : bs.length ≤ maxLen) (hT : Tab w) :
    Calls Tryd.prog 3 #[.slice A bs.length c] w fun e' w' => e' = .returned (.bool true) ∧ ∃ g, w' = plus w g := by
  have HA := hid hA
  have HB := hid hb
  have HT := hid hT
  clear hA hb hT
  by_cases hbig : (65536 : Int) < (bs.length : Int)
  · go_enter Tryd.func3, Tryd.ntmps3
    go_wp2_with (go_at_call 4; refine (l_rBig _ _ _ _).mono ?_; (rintro e w' ⟨rfl, rfl⟩))
    go_ret
    exact ⟨rfl, by (repeat (first | with_reducible exact grew_refl _ | with_reducible assumption | with_reducible refine grew_split ?_ | with_reducible refine grew_mk ?_ | with_reducible refine grew_plus ?_ | with_reducible refine grew_alloc ?_ | with_reducible refine grew_drew ?_ | (with_reducible refine grew_set ?_ (by first | exact Nat.le_refl _ | omega | (simp [go_sem]; done) | (simp [go_sem]; omega)))))⟩
  have HC := hid (show Code0 w A bs from ⟨HA.out, HB.out, by omega⟩)
  clear HA HB
  go_enter Tryd.func3, Tryd.ntmps3
  go_wp2_with (go_at_call 4; refine (l_rBig _ _ _ _).mono ?_; (rintro e w' ⟨rfl, rfl⟩))
  refine (s_DrawIsLit A c bs _ HC.out).mono ?_
  rintro e W1 ⟨⟨v, m, rfl, hv1, hv2, hv3, hS, m0, m1⟩, hg⟩
  have HG := hid hg
  have HV := hid (show v.At W1 from ⟨hS, by unfold maxLen; omega, by unfold maxLen; omega⟩)
  clear hS hg
  obtain ⟨p, hp, hp1, hpk⟩ := period_facts v.core
  have hag := again_law v.core m p hpk
  obtain ⟨lb, lo, hlt⟩ : ∃ lb lo, isLitF v.core m = (lb, lo) := ⟨_, _, rfl⟩
  obtain ⟨lb2, lo2, hlt2⟩ : ∃ lb lo, isLitF v.core (m + (p : Int)) = (lb, lo) := ⟨_, _, rfl⟩
  rw [hlt, hlt2] at hag
  simp only at hag
  obtain ⟨num, den, sh, hsh⟩ : ∃ a b c, lshareF v.core = (a, b, c) := ⟨_, _, _, rfl⟩
  have hz := share_size (v := v.core)
  have hs2 := share_snd v.core
  have hlaw := fun h => share_law (v := v.core) h
  rw [hsh] at hz hs2 hlaw
  simp only at hz hs2 hlaw
  subst hs2
  obtain ⟨z1, z2⟩ := hz
  obtain ⟨po, hpo⟩ : ∃ b, v.core.ok = b := ⟨_, rfl⟩
  have HPK := hid (fun (e : po = true) => hpk (hpo.trans e))
  have HLAW := hid (fun (e : po = true) => hlaw (hpo.trans e))
  have HSM := hid (fun (e : po = true) (k : Nat) (hk : k < per v.core.ph) => small_lit v.core k (hpo.trans e) hk)
  rw [hpo] at hp hsh
  have HP := hid hp
  have HL := hid hlt
  have HL2 := hid hlt2
  have HSH := hid hsh
  have HOK := hid hpo
  have HAG := hid hag
  clear hp hlt hlt2 hsh hpo hag hpk hlaw
  have e1 : (lb != lb) = false := by simp
  have e2 : (lo != lo) = false := by simp
  have e3 : (po != po) = false := by simp
  have e4 : ((p : Int) != (p : Int)) = false := by simp
  have e5 : ((num : Int) != (num : Int)) = false := by simp
  have e6 : ((den : Int) != (den : Int)) = false := by simp
  go_wp2_with fail
  refine (i_IsLit v m _ (HV.out.grew (by (repeat (first | with_reducible exact grew_refl _ | with_reducible assumption | with_reducible refine grew_split ?_ | with_reducible refine grew_mk ?_ | with_reducible refine grew_plus ?_ | with_reducible refine grew_alloc ?_ | with_reducible refine grew_drew ?_ | (with_reducible refine grew_set ?_ (by first | exact Nat.le_refl _ | omega | (simp [go_sem]; done) | (simp [go_sem]; omega)))))))).mono ?_
  rw [HL.out]
  (rintro e w' ⟨rfl, gx, rfl⟩)
  go_wp2_with fail
  refine (s_IsLit v m _ (HV.out.grew (by (repeat (first | with_reducible exact grew_refl _ | with_reducible assumption | with_reducible refine grew_split ?_ | with_reducible refine grew_mk ?_ | with_reducible refine grew_plus ?_ | with_reducible refine grew_alloc ?_ | with_reducible refine grew_drew ?_ | (with_reducible refine grew_set ?_ (by first | exact Nat.le_refl _ | omega | (simp [go_sem]; done) | (simp [go_sem]; omega)))))))).mono ?_
  rw [HL.out]
  (rintro e w' ⟨rfl, gx, rfl⟩)
  go_wp2_with fail
  refine (i_PeriodOf v _ (HV.out.grew (by (repeat (first | with_reducible exact grew_refl _ | with_reducible assumption | with_reducible refine grew_split ?_ | with_reducible refine grew_mk ?_ | with_reducible refine grew_plus ?_ | with_reducible refine grew_alloc ?_ | with_reducible refine grew_drew ?_ | (with_reducible refine grew_set ?_ (by first | exact Nat.le_refl _ | omega | (simp [go_sem]; done) | (simp [go_sem]; omega)))))))).mono ?_
  rw [HP.out]
  (rintro e w' ⟨rfl, gx, rfl⟩)
  go_wp2_with fail
  refine (s_PeriodOf v _ (HV.out.grew (by (repeat (first | with_reducible exact grew_refl _ | with_reducible assumption | with_reducible refine grew_split ?_ | with_reducible refine grew_mk ?_ | with_reducible refine grew_plus ?_ | with_reducible refine grew_alloc ?_ | with_reducible refine grew_drew ?_ | (with_reducible refine grew_set ?_ (by first | exact Nat.le_refl _ | omega | (simp [go_sem]; done) | (simp [go_sem]; omega)))))))).mono ?_
  rw [HP.out]
  (rintro e w' ⟨rfl, gx, rfl⟩)
  go_wp2_with fail
  refine (i_IsLight v _ HOK.out _ (HV.out.grew (by (repeat (first | with_reducible exact grew_refl _ | with_reducible assumption | with_reducible refine grew_split ?_ | with_reducible refine grew_mk ?_ | with_reducible refine grew_plus ?_ | with_reducible refine grew_alloc ?_ | with_reducible refine grew_drew ?_ | (with_reducible refine grew_set ?_ (by first | exact Nat.le_refl _ | omega | (simp [go_sem]; done) | (simp [go_sem]; omega)))))))).mono ?_
  (rintro e w' ⟨rfl, gx, rfl⟩)
  go_wp2_with fail
  refine (i_IsLit v (m + (p : Int)) _ (HV.out.grew (by (repeat (first | with_reducible exact grew_refl _ | with_reducible assumption | with_reducible refine grew_split ?_ | with_reducible refine grew_mk ?_ | with_reducible refine grew_plus ?_ | with_reducible refine grew_alloc ?_ | with_reducible refine grew_drew ?_ | (with_reducible refine grew_set ?_ (by first | exact Nat.le_refl _ | omega | (simp [go_sem]; done) | (simp [go_sem]; omega)))))))).mono ?_
  rw [HL2.out]
  (rintro e w' ⟨rfl, gx, rfl⟩)
  go_upto_region 13 with fail
  refine opq_wp (fun W2 => Blk W2 W1.heap.size 28 #[.int .i64 (v).core.id, .string (v).core.nm, .int .i64 (v).core.x, .int .i64 (v).core.y, .int .i64 (v).core.range, .slice (v).A (v).core.ph.length (v).c] ∧ v.At W2 ∧ ∃ g, W2 = plus w g) ⟨blk_grew (blk_new rfl) (by (repeat (first | with_reducible exact grew_refl _ | with_reducible assumption | with_reducible refine grew_split ?_ | with_reducible refine grew_mk ?_ | with_reducible refine grew_plus ?_ | with_reducible refine grew_alloc ?_ | with_reducible refine grew_drew ?_ | (with_reducible refine grew_set ?_ (by first | exact Nat.le_refl _ | omega | (simp [go_sem]; done) | (simp [go_sem]; omega)))))), HV.out.grew (by (repeat (first | with_reducible exact grew_refl _ | with_reducible assumption | with_reducible refine grew_split ?_ | with_reducible refine grew_mk ?_ | with_reducible refine grew_plus ?_ | with_reducible refine grew_alloc ?_ | with_reducible refine grew_drew ?_ | (with_reducible refine grew_set ?_ (by first | exact Nat.le_refl _ | omega | (simp [go_sem]; done) | (simp [go_sem]; omega)))))), by have hg := HG.out; (repeat (first | with_reducible exact grew_refl _ | with_reducible assumption | with_reducible refine grew_split ?_ | with_reducible refine grew_mk ?_ | with_reducible refine grew_plus ?_ | with_reducible refine grew_alloc ?_ | with_reducible refine grew_drew ?_ | (with_reducible refine grew_set ?_ (by first | exact Nat.le_refl _ | omega | (simp [go_sem]; done) | (simp [go_sem]; omega)))))⟩ ?_
  clear HV HG HL HL2 HP HOK e4 m0 m1
  rintro W2 ⟨hB, hV, hg⟩
  have HV := hid hV
  have HG2 := hid hg
  have hbl := hB.lt
  (have hd0 := hB.cell 0; have hd1 := hB.cell 1; have hd2 := hB.cell 2; have hd3 := hB.cell 3; have hd4 := hB.cell 4; have hd5 := hB.cell 5; simp [go_sem] at hd0 hd1 hd2 hd3 hd4 hd5)
  clear hB hV hg
  go_cut [97] (fun t wx => t = .bool false ∧ ∃ g, wx = plus W2 g)
  case first =>
    as_aux_lemma =>
      cases lo
      · go_wp2_with fail
        go_meet
        exact ⟨rfl, by (repeat (first | with_reducible exact grew_refl _ | with_reducible assumption | with_reducible refine grew_split ?_ | with_reducible refine grew_mk ?_ | with_reducible refine grew_plus ?_ | with_reducible refine grew_alloc ?_ | with_reducible refine grew_drew ?_ | (with_reducible refine grew_set ?_ (by first | exact Nat.le_refl _ | omega | (simp [go_sem]; done) | (simp [go_sem]; omega)))))⟩
      · cases lo2
        · go_wp2_with fail
          go_meet
          exact ⟨rfl, by (repeat (first | with_reducible exact grew_refl _ | with_reducible assumption | with_reducible refine grew_split ?_ | with_reducible refine grew_mk ?_ | with_reducible refine grew_plus ?_ | with_reducible refine grew_alloc ?_ | with_reducible refine grew_drew ?_ | (with_reducible refine grew_set ?_ (by first | exact Nat.le_refl _ | omega | (simp [go_sem]; done) | (simp [go_sem]; omega)))))⟩
        · obtain rfl := HAG.out rfl rfl
          go_wp2_with fail
          go_meet
          exact ⟨rfl, by (repeat (first | with_reducible exact grew_refl _ | with_reducible assumption | with_reducible refine grew_split ?_ | with_reducible refine grew_mk ?_ | with_reducible refine grew_plus ?_ | with_reducible refine grew_alloc ?_ | with_reducible refine grew_drew ?_ | (with_reducible refine grew_set ?_ (by first | exact Nat.le_refl _ | omega | (simp [go_sem]; done) | (simp [go_sem]; omega)))))⟩
  case rest =>
    obtain ⟨rfl, g3, rfl⟩ := hcut
    go_wp2_with fail
    refine (i_LitShare v _ (HV.out.grew (by (repeat (first | with_reducible exact grew_refl _ | with_reducible assumption | with_reducible refine grew_split ?_ | with_reducible refine grew_mk ?_ | with_reducible refine grew_plus ?_ | with_reducible refine grew_alloc ?_ | with_reducible refine grew_drew ?_ | (with_reducible refine grew_set ?_ (by first | exact Nat.le_refl _ | omega | (simp [go_sem]; done) | (simp [go_sem]; omega)))))))).mono ?_
    rw [HSH.out]
    (rintro e w' ⟨rfl, gx, rfl⟩)
    go_wp2_with fail
    refine (s_LitShare v _ (HV.out.grew (by (repeat (first | with_reducible exact grew_refl _ | with_reducible assumption | with_reducible refine grew_split ?_ | with_reducible refine grew_mk ?_ | with_reducible refine grew_plus ?_ | with_reducible refine grew_alloc ?_ | with_reducible refine grew_drew ?_ | (with_reducible refine grew_set ?_ (by first | exact Nat.le_refl _ | omega | (simp [go_sem]; done) | (simp [go_sem]; omega)))))))).mono ?_
    rw [HSH.out]
    (rintro e w' ⟨rfl, gx, rfl⟩)
    go_upto_if 128 with fail
    go_cut [21, 22] (fun _ _ wx => ∃ g, wx = plus W2 g)
    case first =>
      as_aux_lemma =>
        cases po
        · go_wp2_with fail
          go_meet
          exact (by (repeat (first | with_reducible exact grew_refl _ | with_reducible assumption | with_reducible refine grew_split ?_ | with_reducible refine grew_mk ?_ | with_reducible refine grew_plus ?_ | with_reducible refine grew_alloc ?_ | with_reducible refine grew_drew ?_ | (with_reducible refine grew_set ?_ (by first | exact Nat.le_refl _ | omega | (simp [go_sem]; done) | (simp [go_sem]; omega))))))
        · have hpk := HPK.out rfl
          have hlaw := HLAW.out rfl
          have hsm := HSM.out rfl
          rw [← hpk] at hlaw hsm
          have HSM2 := hid hsm
          have hle := litN_le v.core.ph p
          have HLAW2 := hid hlaw
          clear hpk hlaw hsm
          go_upto_block 0 with fail
          go_wp2_with fail
          go_loopw [21, 22] (fun n i wr => ∃ k : Nat, k ≤ p ∧ i = .int .i64 k ∧ n = .int .i64 ((litN v.core.ph k : Nat) : Int) ∧ (∃ g, wr = plus W2 g)) (fun _ i _ => p - (intOf i).toNat)
          case atStart => exact ⟨0, Nat.zero_le _, rfl, rfl, by (repeat (first | with_reducible exact grew_refl _ | with_reducible assumption | with_reducible refine grew_split ?_ | with_reducible refine grew_mk ?_ | with_reducible refine grew_plus ?_ | with_reducible refine grew_alloc ?_ | with_reducible refine grew_drew ?_ | (with_reducible refine grew_set ?_ (by first | exact Nat.le_refl _ | omega | (simp [go_sem]; done) | (simp [go_sem]; omega)))))⟩
          case round =>
            obtain ⟨k, hk, rfl, rfl, gk, rfl⟩ := hrel
            by_cases hlt : k < p
            · have hsm := HSM2.out k hlt
              have hnk := litN_le v.core.ph k
              have hst : litN v.core.ph (k + 1) = litN v.core.ph k + if litAt v.core.ph (k : Int) then 1 else 0 := rfl
              obtain ⟨q, hq⟩ : ∃ q, litAt v.core.ph (k : Int) = q := ⟨_, rfl⟩
              rw [hq] at hsm hst
              have HSMK := hid hsm
              clear hsm hq
              go_wp2_with fail
              refine (i_IsLit v (k : Int) _ (HV.out.grew (by (repeat (first | with_reducible exact grew_refl _ | with_reducible assumption | with_reducible refine grew_split ?_ | with_reducible refine grew_mk ?_ | with_reducible refine grew_plus ?_ | with_reducible refine grew_alloc ?_ | with_reducible refine grew_drew ?_ | (with_reducible refine grew_set ?_ (by first | exact Nat.le_refl _ | omega | (simp [go_sem]; done) | (simp [go_sem]; omega)))))))).mono ?_
              rw [HSMK.out]
              (rintro e w' ⟨rfl, gx, rfl⟩)
              cases q
              · have HST := hid hst
                clear hst
                go_wp2_with fail
                go_roundw
                case rel => exact ⟨k + 1, by omega, by go_num, by rw [HST.out]; simp, by (repeat (first | with_reducible exact grew_refl _ | with_reducible assumption | with_reducible refine grew_split ?_ | with_reducible refine grew_mk ?_ | with_reducible refine grew_plus ?_ | with_reducible refine grew_alloc ?_ | with_reducible refine grew_drew ?_ | (with_reducible refine grew_set ?_ (by first | exact Nat.le_refl _ | omega | (simp [go_sem]; done) | (simp [go_sem]; omega)))))⟩
                case measure => simp [intOf]; omega
              · have HST := hid hst
                clear hst
                go_wp2_with fail
                go_roundw
                case rel => exact ⟨k + 1, by omega, by go_num, by rw [HST.out]; simp, by (repeat (first | with_reducible exact grew_refl _ | with_reducible assumption | with_reducible refine grew_split ?_ | with_reducible refine grew_mk ?_ | with_reducible refine grew_plus ?_ | with_reducible refine grew_alloc ?_ | with_reducible refine grew_drew ?_ | (with_reducible refine grew_set ?_ (by first | exact Nat.le_refl _ | omega | (simp [go_sem]; done) | (simp [go_sem]; omega)))))⟩
                case measure => simp [intOf]; omega
            · obtain rfl : k = p := by omega
              have hZ : ((litN v.core.ph k : Nat) : Int) * (den : Int) = (num : Int) * (k : Int) := by exact_mod_cast HLAW2.out
              have b0 : (0 : Int) ≤ (num : Int) * (k : Int) := Int.mul_nonneg (by omega) (by omega)
              have b1 : (num : Int) * (k : Int) ≤ 1600 * 1600 := Int.mul_le_mul (by omega) (by omega) (by omega) (by omega)
              have c0 : (0 : Int) ≤ ((litN v.core.ph k : Nat) : Int) * (den : Int) := by rw [hZ]; exact b0
              have c1 : ((litN v.core.ph k : Nat) : Int) * (den : Int) ≤ 1600 * 1600 := by rw [hZ]; exact b1
              have hne : (((litN v.core.ph k : Nat) : Int) * (den : Int) != (num : Int) * (k : Int)) = false := by rw [hZ]; simp
              clear hZ
              go_wp2_with fail
              go_meet
              exact (by (repeat (first | with_reducible exact grew_refl _ | with_reducible assumption | with_reducible refine grew_split ?_ | with_reducible refine grew_mk ?_ | with_reducible refine grew_plus ?_ | with_reducible refine grew_alloc ?_ | with_reducible refine grew_drew ?_ | (with_reducible refine grew_set ?_ (by first | exact Nat.le_refl _ | omega | (simp [go_sem]; done) | (simp [go_sem]; omega))))))
    case rest =>
      obtain ⟨g4, rfl⟩ := hcut
      go_upto_region 31 with fail
      refine opq_wp (fun W3 => Code0 W3 A bs ∧ Tab W3 ∧ ∃ g, W3 = plus w g) ⟨HC.out.grewY (by have hg := HG2.out; (repeat (first | with_reducible exact grew_refl _ | with_reducible assumption | with_reducible refine grew_split ?_ | with_reducible refine grew_mk ?_ | with_reducible refine grew_plus ?_ | with_reducible refine grew_alloc ?_ | with_reducible refine grew_drew ?_ | (with_reducible refine grew_set ?_ (by first | exact Nat.le_refl _ | omega | (simp [go_sem]; done) | (simp [go_sem]; omega)))))), HT.out.grew (by have hg := HG2.out; (repeat (first | with_reducible exact grew_refl _ | with_reducible assumption | with_reducible refine grew_split ?_ | with_reducible refine grew_mk ?_ | with_reducible refine grew_plus ?_ | with_reducible refine grew_alloc ?_ | with_reducible refine grew_drew ?_ | (with_reducible refine grew_set ?_ (by first | exact Nat.le_refl _ | omega | (simp [go_sem]; done) | (simp [go_sem]; omega)))))), by have hg := HG2.out; (repeat (first | with_reducible exact grew_refl _ | with_reducible assumption | with_reducible refine grew_split ?_ | with_reducible refine grew_mk ?_ | with_reducible refine grew_plus ?_ | with_reducible refine grew_alloc ?_ | with_reducible refine grew_drew ?_ | (with_reducible refine grew_set ?_ (by first | exact Nat.le_refl _ | omega | (simp [go_sem]; done) | (simp [go_sem]; omega)))))⟩ ?_
      clear hd0 hd1 hd2 hd3 hd4 hd5 hbl HV HG2 HSH HPK HLAW HSM HAG hp1 z1 z2 e1 e2 e3 e5 e6 hv1 hv2 hv3
      rintro W3 ⟨hC3, hT3, hg3⟩
      have HC3 := hid hC3
      have HT3 := hid hT3
      have HG3 := hid hg3
      clear hC3 hT3 hg3
      go_wp2_with fail
      refine (s_DrawLightText A c bs _ HC3.out).mono ?_
      rintro e W5 ⟨⟨u, rfl, hu1, hu2, hu3, hO⟩, hg5⟩
      have HT5 := hid (HT3.out.grew hg5)
      have HG5 := hid (grew_two' HG3.out hg5)
      have HU := hid (show u.At W5 from ⟨hO.sl, by unfold maxLen; omega, by unfold maxLen; omega⟩)
      clear hO hg5 HC3 HT3 HG3
      obtain ⟨tx, so, htf⟩ : ∃ tx so, lightF u.core = (tx, so) := ⟨_, _, rfl⟩
      have HTF := hid htf
      have e6 : (tx.toList == tx.toList) = true := by simp
      have e7 : (so == so) = true := by simp
      clear htf
      go_wp2_with fail
      refine (i_LightText u _ (HU.out.grew (by (repeat (first | with_reducible exact grew_refl _ | with_reducible assumption | with_reducible refine grew_split ?_ | with_reducible refine grew_mk ?_ | with_reducible refine grew_plus ?_ | with_reducible refine grew_alloc ?_ | with_reducible refine grew_drew ?_ | (with_reducible refine grew_set ?_ (by first | exact Nat.le_refl _ | omega | (simp [go_sem]; done) | (simp [go_sem]; omega))))))) (HT5.out.grew (by (repeat (first | with_reducible exact grew_refl _ | with_reducible assumption | with_reducible refine grew_split ?_ | with_reducible refine grew_mk ?_ | with_reducible refine grew_plus ?_ | with_reducible refine grew_alloc ?_ | with_reducible refine grew_drew ?_ | (with_reducible refine grew_set ?_ (by first | exact Nat.le_refl _ | omega | (simp [go_sem]; done) | (simp [go_sem]; omega)))))))).mono ?_
      rw [HTF.out]
      (rintro e w' ⟨rfl, gx, rfl⟩)
      go_wp2_with fail
      refine (s_LightText u _ (HU.out.grew (by (repeat (first | with_reducible exact grew_refl _ | with_reducible assumption | with_reducible refine grew_split ?_ | with_reducible refine grew_mk ?_ | with_reducible refine grew_plus ?_ | with_reducible refine grew_alloc ?_ | with_reducible refine grew_drew ?_ | (with_reducible refine grew_set ?_ (by first | exact Nat.le_refl _ | omega | (simp [go_sem]; done) | (simp [go_sem]; omega)))))))).mono ?_
      rw [HTF.out]
      (rintro e w' ⟨rfl, gx, rfl⟩)
      go_wp2_with fail
      go_ret
      have h := HG5.out
      exact ⟨rfl, by (repeat (first | with_reducible exact grew_refl _ | with_reducible assumption | with_reducible refine grew_split ?_ | with_reducible refine grew_mk ?_ | with_reducible refine grew_plus ?_ | with_reducible refine grew_alloc ?_ | with_reducible refine grew_drew ?_ | (with_reducible refine grew_set ?_ (by first | exact Nat.le_refl _ | omega | (simp [go_sem]; done) | (simp [go_sem]; omega)))))⟩
theorem fnLights_met (os : Os) : laidMet Tryd.prog Rows.fnLightsRow.laid ((laidWorld os).forCall (fun _ _ => 0) ⟨#[], #[.slice none 0 0], []⟩).memory :=
  laidMet_of_run' 8 (by kernel_rfl) (by kernel_rfl)
theorem fnLights_reads (os : Os) {H : Type} (enc : TypeId × Value → H) : ∃ places, DataW.whole enc Tryd.prog ((laidWorld os).forCall (fun _ _ => 0) ⟨#[], #[.slice none 0 0], []⟩).memory Tryd.f3.params.toList Rows.fnLightsSpec.vars false (#[.slice none 0 0] : Array Value).toList 8 = some ([.nil], [], places) :=
  ⟨[], by kernel_rfl⟩
set_option maxRecDepth 100000 in
theorem fnLights_contract (H : Type) (enc : TypeId × Value → H) (W : World) (base : Nat) (args : Array Value) (ds gs : List (DataW H)) (before : List MemPlace)
    (hval0 : ∀ (j : Nat) t v, Tryd.f3.params[j]? = some t → args[j]? = some v → Value.okWide Tryd.prog W .any base t v)
    (hW : DataW.Whole enc Tryd.prog Tryd.f3.params.toList Rows.fnLightsSpec.vars false W args.toList ds gs before) (hL : laidMetH Tryd.prog Rows.fnLightsRow.laid W) (_hsh : W.ShapedOpen Tryd.prog) :
    Calls Tryd.prog 3 args W fun e W' => ∃ v, e = .returned v ∧ Rows.fnLightsSpec.post enc Tryd.prog Tryd.f3 false true false false W args v W' := by
  have hT : Tab W := tab_of hL
  have hval := hval0
  have hW' := hW
  obtain ⟨p, q, hA0, hV, rfl, hfz, hnd⟩ := hW
  have hA : DataW.TrodAll enc Tryd.prog W 0 (fun _ => true) true Tryd.f3.params.toList args.toList ds p := hA0
  rw [Tryd.params3] at hA hval
  obtain ⟨v0, vs0, d0, ds0, p0, q0, hargs, rfl, rfl, h0, r0⟩ := trodAll_cons hA
  obtain ⟨rfl, rfl, rfl⟩ := trodAll_nil r0
  obtain rfl : args = #[v0] := by cases args; simp_all
  obtain ⟨rfl, rfl⟩ := trodVars_none hV
  have k0 := h0
  have lt0 : ∀ x ∈ p0, x.block < W.heap.size := by obtain ⟨m, hm⟩ := k0; exact DataW.trod_lt m _ _ _ hm
  obtain ⟨A, c, l, rfl, hS, hb, hl⟩ := open_code (hval 0 22 v0 rfl rfl) h0
  clear hA0 hval0
  refine (l_FnLights A c l W hS hb hl hT).mono fun e W' ⟨he, hg⟩ => ?_
  have bel := below_of_grew hg
  subst he
  exact ⟨_, rfl, _, _, _, [], _, [], hW', trodAll_mk1 (shut_bool Tryd.underlying4 _), (trodAll_cons_mk (Below.trod laid_out (by kernel_rfl) (of_decide_eq_true (by kernel_rfl)) k0 bel lt0) trodAll_mk0), rfl, bel.frame _, fun h => by cases h⟩
set_option maxRecDepth 100000 in
theorem fnLights_lifted (os : Os) (started : os.Started) (H : Type) (enc : TypeId × Value → H) (F : Stop.Interp) :
    ReturnsInHanded {} Tryd.checked os 3 .any ((OpenSpec.ofChange Rows.fnLightsSpec).preRow enc Tryd.prog Tryd.f3 Rows.fnLightsRow.domain false Rows.fnLightsRow.laid) (((OpenSpec.ofChange Rows.fnLightsSpec).at F).post enc Tryd.prog Tryd.f3 false true false false) := by
  obtain ⟨places, hx⟩ := fnLights_reads os enc
  refine returnsInHanded_of_row (C := Tryd.checked) (s := OpenSpec.ofChange Rows.fnLightsSpec) own_knob started (by kernel_rfl) Tryd.func3
    (witness_row_at (enc := enc) (C := Tryd.checked) false (laidWorld os) #[.slice none 0 0] rfl (by kernel_rfl) (by kernel_rfl) (by kernel_rfl)
      (OpenSpec.preRow_of_cond 8 hx (by kernel_rfl) (fun k hk => by cases hk) (by kernel_rfl) (fnLights_met os))) ?_
  intro W base args ds gs before hval hW _ _ _ hL hsh _
  exact fnLights_contract H enc W base args ds gs before hval hW hL hsh
theorem fnLights_said : Rows.FnLightsSaid :=
  OpenClaim.holds_of_cond 3 Tryd.f3 rfl rfl rfl rfl rfl rfl rfl ⟨rfl, rfl, rfl, rfl, rfl⟩ rfl rfl rfl rfl rfl (by kernel_rfl) Tryd.func3 (by kernel_rfl)
    (of_decide_eq_true (by kernel_rfl)) (by unfold Func.isWrapper; first | (rw [if_pos (by decide +kernel)]; kernel_rfl) | (rw [if_neg (by decide +kernel)]; exact ⟨rfl, rfl⟩))
    (fun os started H enc _ F => by rw [OpenClaim.pre_eq_preRow]; exact fnLights_lifted os started H enc F)
theorem fnLights_plain (f : FuncId) (fn : Func) (hf : Tryd.pinned.checked.prog.funcNamed Rows.fnLightsRow.func = some f) (hfn : Tryd.pinned.checked.prog.funcs[f]? = some fn) :
    ∀ (j : Nat) t, fn.params[j]? = some t → Tryd.pinned.checked.prog.wantsStandIn t = false := by
  obtain rfl : f = 3 := Option.some.inj ((show Tryd.prog.funcNamed Rows.fnLightsRow.func = some 3 by kernel_rfl).symm.trans hf) |>.symm
  obtain rfl : fn = Tryd.f3 := (Option.some.inj (Tryd.func3.symm.trans hfn)).symm
  intro j t ht
  have h : ∀ t ∈ Tryd.f3.params.toList, Tryd.prog.wantsStandIn t = false := by rw [Tryd.params3]; intro t ht; simp at ht; rcases ht with rfl <;> kernel_rfl
  exact h t (by simpa using Array.mem_of_getElem? ht)
theorem fnLights_holds : Rows.FnLightsCardSaid :=
  Claim7.holds_tied_plain_at .later [] _ _ _ _ fnLights_said (fun _ h => by cases h) (by kernel_rfl) (fun _ h => by cases h) fnLights_row_tie rfl ⟨rfl, rfl⟩ (by kernel_rfl) rfl (fun f fn hf hfn => ⟨by kernel_rfl, fnLights_plain f fn hf hfn⟩) (by kernel_rfl)
end Go.Proofs.YtjlaidjogladaaaDoor
