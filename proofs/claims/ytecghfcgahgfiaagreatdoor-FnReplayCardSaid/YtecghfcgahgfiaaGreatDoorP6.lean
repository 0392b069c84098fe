import Derived.Test.YtecghfcgahgfiaaGreatDoorP5
import Derived.Test.YtecghfcgahgfiaaGreatDoorP3
import Derived.IntWalk
import Derived.BigGuard
import Derived.Lib.AtoiBound
import Derived.Test.YtecghfcgahgfiaaGreatDoorCards
import Derived.Test.YtecghfcgahgfiaaGreatDoorTie
import Derived.ProofKit
import Derived.OpenShut
import Derived.Deep.DeepHandedRow
import Derived.Lib.LaidTab
import Derived.Stop.LaidErr
import Derived.LaidLaws
import Derived.Plain9
/- Reading numbers, in both packages. -/
namespace Go.Proofs.YtecghfcgahgfiaaGreatDoor
open Go.RowKit

/-- The variable strconv.ErrSyntax holds an interface value. -/
def Syn (w : World) : Prop := ∃ ev, w.cell? ⟨2, 0, none⟩ = some ev ∧ (ev = .nilIface ∨ ∃ te pe, ev = .iface te pe)
theorem Syn.grew {w w' : World} (h : Syn w) (hg : ∃ g, w' = plus w g) : Syn w' := by
  obtain ⟨ev, h1, h2⟩ := h
  exact ⟨ev, (below_of_grew hg).cell (World.block_lt_of_cell? _ _ h1) |>.trans h1, h2⟩
theorem ba_list {a b : ByteArray} (h : a.toList = b.toList) : a = b := by
  rw [ByteArray.toList_eq, ByteArray.toList_eq] at h
  exact ba_ext h
theorem ne_list {a b : ByteArray} (h : a ≠ b) : (a.toList == b.toList) = false := by
  rw [beq_eq_false_iff_ne]; exact fun e => h (ba_list e)
theorem ret_ob {n : Int} {o : Option Int} (h : o = some n) : Ending.returned (.tuple #[.int .i64 n, .bool true]) = .returned (.tuple #[.int .i64 (o.getD 0), .bool o.isSome]) := by rw [h]; rfl
theorem ret_on {o : Option Int} (h : o = none) : Ending.returned (.tuple #[.int .i64 0, .bool false]) = .returned (.tuple #[.int .i64 (o.getD 0), .bool o.isSome]) := by rw [h]; rfl
set_option maxHeartbeats 2000000 in
theorem i_ParseInt (s : ByteArray) (w : World) (hs : s.size ≤ maxLen) (hT : Tab w) (hY : Syn w) :
    Calls Tryz.prog 71 #[.string s] w fun e w' => e = .returned (.tuple #[.int .i64 ((parseF s).getD 0), .bool (parseF s).isSome]) ∧ ∃ g, w' = plus w g := by
  have HT := hid hT
  have HY := hid hY
  unfold maxLen at hs
  clear hT hY
  by_cases h7 : 7 < s.size
  · have HF := hid (parse_long h7)
    have h7' : (7 : Int) < (s.size : Int) := by omega
    go_enter Tryz.func71, Tryz.ntmps71
    go_wp2_with fail
    go_ret2
    exact ⟨ret_on HF.out, by (repeat (first | with_reducible exact grew_refl _ | with_reducible assumption | with_reducible refine grew_split ?_ | with_reducible refine grew_mk ?_ | with_reducible refine grew_plus ?_ | with_reducible refine grew_alloc ?_ | with_reducible refine grew_drew ?_ | (with_reducible refine grew_set ?_ (by first | exact Nat.le_refl _ | omega | (simp [go_sem]; done) | (simp [go_sem]; omega)))))⟩
  have h7' : ¬ (7 : Int) < (s.size : Int) := by omega
  cases ha : Go.Lib.atoi (bl s) with
  | none =>
    have HF := hid (parse_atoi ha)
    have HA := hid ha
    obtain ⟨ev, hv, hev⟩ := HY.out
    have HV := hid hv
    have HEV := hid hev
    clear ha hv hev
    go_enter Tryz.func71, Tryz.ntmps71
    go_wp2_with fail
    refine (Tryz.strconv_Atoi_err s (by omega) HA.out ev _ HV.out HEV.out).mono ?_
    rintro e w' ⟨N, rfl, -, -, hb⟩
    obtain ⟨gx, rfl⟩ := below_grew hb
    clear hb
    go_wp2_with fail
    go_ret2
    exact ⟨ret_on HF.out, by (repeat (first | with_reducible exact grew_refl _ | with_reducible assumption | with_reducible refine grew_split ?_ | with_reducible refine grew_mk ?_ | with_reducible refine grew_plus ?_ | with_reducible refine grew_alloc ?_ | with_reducible refine grew_drew ?_ | (with_reducible refine grew_set ?_ (by first | exact Nat.le_refl _ | omega | (simp [go_sem]; done) | (simp [go_sem]; omega)))))⟩
  | some n =>
    have HA := hid ha
    have HP := hid (parse_atoi_some ha)
    have hn := Go.Lib.atoi_bound ha (by rw [bl_len]; omega)
    obtain ⟨n0, n1⟩ := hn
    clear ha
    cases hin : inB n (-999999) 999999
    · have HF : Hid (parseF s = none) := hid (by rw [HP.out, hin]; simp)
      go_enter Tryz.func71, Tryz.ntmps71
      go_wp2_with fail
      refine (Tryz.strconv_Atoi s n (by omega) HA.out _).mono ?_
      rintro e w' ⟨rfl, t, hw⟩
      obtain ⟨gx, hw2⟩ := below_grew (hw ▸ Go.Lib.bytesWorld_below _ _ _ : Below w.heap.size w w')
      subst hw2
      clear hw
      go_wp2_with fail
      refine (i_inside _ _ _ _ hin _).mono ?_
      (rintro e w' ⟨rfl, rfl⟩)
      go_wp2_with fail
      go_ret2
      exact ⟨ret_on HF.out, by (repeat (first | with_reducible exact grew_refl _ | with_reducible assumption | with_reducible refine grew_split ?_ | with_reducible refine grew_mk ?_ | with_reducible refine grew_plus ?_ | with_reducible refine grew_alloc ?_ | with_reducible refine grew_drew ?_ | (with_reducible refine grew_set ?_ (by first | exact Nat.le_refl _ | omega | (simp [go_sem]; done) | (simp [go_sem]; omega)))))⟩
    · have hb : -999999 ≤ n ∧ n ≤ 999999 := by simpa [inB] using hin
      have z1 := num_size n (by omega) (by omega)
      by_cases hq : num n = s
      · have HF : Hid (parseF s = some n) := hid (by rw [HP.out, hin]; simp [hq])
        have t0 : ((num n).toList == s.toList) = true := by rw [hq]; simp
        go_enter Tryz.func71, Tryz.ntmps71
        go_wp2_with fail
        refine (Tryz.strconv_Atoi s n (by omega) HA.out _).mono ?_
        rintro e w' ⟨rfl, t, hw⟩
        obtain ⟨gx, hw2⟩ := below_grew (hw ▸ Go.Lib.bytesWorld_below _ _ _ : Below w.heap.size w w')
        subst hw2
        clear hw hq
        go_wp2_with fail
        refine (i_inside _ _ _ _ hin _).mono ?_
        (rintro e w' ⟨rfl, rfl⟩)
        go_wp2_with fail
        refine (i_Itoa n _ (by omega) (by omega) (HT.out.grew (by (repeat (first | with_reducible exact grew_refl _ | with_reducible assumption | with_reducible refine grew_split ?_ | with_reducible refine grew_mk ?_ | with_reducible refine grew_plus ?_ | with_reducible refine grew_alloc ?_ | with_reducible refine grew_drew ?_ | (with_reducible refine grew_set ?_ (by first | exact Nat.le_refl _ | omega | (simp [go_sem]; done) | (simp [go_sem]; omega)))))))).mono ?_
        (rintro e w' ⟨rfl, gx, rfl⟩)
        go_wp2_with fail
        go_ret2
        exact ⟨ret_ob HF.out, by (repeat (first | with_reducible exact grew_refl _ | with_reducible assumption | with_reducible refine grew_split ?_ | with_reducible refine grew_mk ?_ | with_reducible refine grew_plus ?_ | with_reducible refine grew_alloc ?_ | with_reducible refine grew_drew ?_ | (with_reducible refine grew_set ?_ (by first | exact Nat.le_refl _ | omega | (simp [go_sem]; done) | (simp [go_sem]; omega)))))⟩
      · have HF : Hid (parseF s = none) := hid (by rw [HP.out, hin]; simp [hq])
        have t0 : ((num n).toList == s.toList) = false := ne_list hq
        go_enter Tryz.func71, Tryz.ntmps71
        go_wp2_with fail
        refine (Tryz.strconv_Atoi s n (by omega) HA.out _).mono ?_
        rintro e w' ⟨rfl, t, hw⟩
        obtain ⟨gx, hw2⟩ := below_grew (hw ▸ Go.Lib.bytesWorld_below _ _ _ : Below w.heap.size w w')
        subst hw2
        clear hw hq
        go_wp2_with fail
        refine (i_inside _ _ _ _ hin _).mono ?_
        (rintro e w' ⟨rfl, rfl⟩)
        go_wp2_with fail
        refine (i_Itoa n _ (by omega) (by omega) (HT.out.grew (by (repeat (first | with_reducible exact grew_refl _ | with_reducible assumption | with_reducible refine grew_split ?_ | with_reducible refine grew_mk ?_ | with_reducible refine grew_plus ?_ | with_reducible refine grew_alloc ?_ | with_reducible refine grew_drew ?_ | (with_reducible refine grew_set ?_ (by first | exact Nat.le_refl _ | omega | (simp [go_sem]; done) | (simp [go_sem]; omega)))))))).mono ?_
        (rintro e w' ⟨rfl, gx, rfl⟩)
        go_wp2_with fail
        go_ret2
        exact ⟨ret_on HF.out, by (repeat (first | with_reducible exact grew_refl _ | with_reducible assumption | with_reducible refine grew_split ?_ | with_reducible refine grew_mk ?_ | with_reducible refine grew_plus ?_ | with_reducible refine grew_alloc ?_ | with_reducible refine grew_drew ?_ | (with_reducible refine grew_set ?_ (by first | exact Nat.le_refl _ | omega | (simp [go_sem]; done) | (simp [go_sem]; omega)))))⟩
theorem dec_bad {l : Bytes} {k : Nat} (hk : k < l.length) (h : ¬ (48 ≤ l[k].toNat ∧ l[k].toNat ≤ 57)) : Go.Lib.decFrom 0 l = none := by
  cases hd : Go.Lib.decFrom 0 l with
  | none => rfl
  | some n =>
    obtain ⟨d, hx⟩ := Go.Lib.digit_of_decFrom l 0 n hd k l[k] (List.getElem?_eq_getElem hk)
    have := Go.Lib.digitVal_eq hx
    exact absurd ⟨this.1, this.2.1⟩ h
theorem dec_step {l : Bytes} {k m : Nat} (hk : k < l.length) (hm : Go.Lib.decFrom 0 (l.take k) = some m) (h : 48 ≤ l[k].toNat ∧ l[k].toNat ≤ 57) : Go.Lib.decFrom 0 (l.take (k + 1)) = some (m * 10 + (l[k].toNat - 48)) :=
  Go.Lib.decFrom_take l k 0 m l[k] (l[k].toNat - 48) hm (List.getElem?_eq_getElem hk) (by simp [Go.Lib.digitVal, h])
theorem bl_get {s : ByteArray} {k : Nat} (h : k < s.size) : (bl s)[k]'(by rw [bl_len]; exact h) = s[k] := by
  simp [ByteArray.getElem_eq_getElem_data]
set_option maxHeartbeats 4000000 in
theorem s_l1Read (s : ByteArray) (w : World) (hs : s.size ≤ maxLen) :
    Calls Tryz.prog 105 #[.string s] w fun e w' => e = .returned (.tuple #[.int .i64 ((parseF s).getD 0), .bool (parseF s).isSome]) ∧ ∃ g, w' = plus w g := by
  unfold maxLen at hs
  by_cases hn : 1 < s.size ∧ (bl s)[0]? = some 45
  · obtain ⟨hn1, hn2⟩ := hn
    have h0 : s[0] = 45 := by
      rw [List.getElem?_eq_getElem (by rw [bl_len]; omega), bl_get (by omega)] at hn2
      injection hn2
    have h45 : ((s[0].toNat : Int) == 45) = true := by rw [h0]; rfl
    have hlt0 : 0 < s.size := by omega
    have hnI : (1 : Int) < (s.size : Int) := by omega
    have hbt : bl s = 45 :: bl (s.extract 1 s.size) := by
      rw [bl_extract, List.take_of_length_le (by simp)]
      cases hb : bl s with
      | nil => rw [hb] at hn2; cases hn2
      | cons c r => rw [hb] at hn2; simp only [List.getElem?_cons_zero, Option.some.injEq] at hn2; subst hn2; rfl
    have hts : (s.extract 1 s.size).size = s.size - 1 := by simp
    clear hn2 h0
    go_enter Tryz.func105, Tryz.ntmps105
    go_upto_region 4 with fail
    generalize s.extract 1 s.size = t at hbt hts
    obtain ⟨p1, p2, p3⟩ := parse_neg hbt (by omega)
    have HN1 : Hid (¬ (1 ≤ t.size ∧ t.size ≤ 6) → parseF s = none) := hid (fun h => p1 (by omega))
    have HN2 := hid p2
    have HN3 := hid p3
    have htl : t.size < s.size := by omega
    clear p1 p2 p3 hbt h45 hts
    by_cases hlen : 1 ≤ t.size ∧ t.size ≤ 6
    · obtain ⟨hl1, hl6⟩ := hlen
      have hin : inB (t.size : Int) 1 6 = true := by simp [inB]; omega
      go_wp2_with fail
      refine (s_l1In _ _ _ _ hin _).mono ?_
      (rintro e w' ⟨rfl, rfl⟩)
      go_wp2_with fail
      go_loopw [5, 6] (fun n i wr => ∃ (k m : Nat), k ≤ t.size ∧ i = .int .i64 k ∧ n = .int .i64 m ∧ Go.Lib.decFrom 0 ((bl t).take k) = some m ∧ ∃ g, wr = plus w g) (fun _ i _ => t.size - (intOf i).toNat)
      case atStart => exact ⟨0, 0, Nat.zero_le _, rfl, rfl, rfl, by (repeat (first | with_reducible exact grew_refl _ | with_reducible assumption | with_reducible refine grew_split ?_ | with_reducible refine grew_mk ?_ | with_reducible refine grew_plus ?_ | with_reducible refine grew_alloc ?_ | with_reducible refine grew_drew ?_ | (with_reducible refine grew_set ?_ (by first | exact Nat.le_refl _ | omega | (simp [go_sem]; done) | (simp [go_sem]; omega)))))⟩
      case round =>
        obtain ⟨k, m, hk, rfl, rfl, hd, gl, rfl⟩ := hrel
        have hm6 : (m : Int) ≤ 999999 := by have h := decFrom_small hd (by rw [List.length_take, bl_len]; omega); omega
        by_cases hlt : k < t.size
        · by_cases hdg : 48 ≤ t[k].toNat ∧ t[k].toNat ≤ 57
          · obtain ⟨d1, d2⟩ := hdg
            have hst := dec_step (l := bl t) (k := k) (m := m) (by rw [bl_len]; exact hlt) hd (by rw [bl_get hlt]; exact ⟨d1, d2⟩)
            rw [bl_get hlt] at hst
            have HST := hid hst
            clear hst hd
            have c1 : ¬ (t[k].toNat : Int) < 48 := by omega
            have c2 : ¬ 57 < (t[k].toNat : Int) := by omega
            have c3 : IntKind.u8.wrap ((t[k].toNat : Int) - 48) = (t[k].toNat : Int) - 48 := by rw [IntKind.wrap_u8]; omega
            have c4 : (0 : Int) ≤ (t[k].toNat : Int) - 48 := by omega
            have c5 : (t[k].toNat : Int) - 48 ≤ 9 := by omega
            go_wp2_with fail
            go_roundw
            case rel => exact ⟨k + 1, m * 10 + (t[k].toNat - 48), by omega, by go_num, vint (by omega), HST.out, by (repeat (first | with_reducible exact grew_refl _ | with_reducible assumption | with_reducible refine grew_split ?_ | with_reducible refine grew_mk ?_ | with_reducible refine grew_plus ?_ | with_reducible refine grew_alloc ?_ | with_reducible refine grew_drew ?_ | (with_reducible refine grew_set ?_ (by first | exact Nat.le_refl _ | omega | (simp [go_sem]; done) | (simp [go_sem]; omega)))))⟩
            case measure => simp [intOf]; omega
          · have hbad := dec_bad (l := bl t) (k := k) (by rw [bl_len]; exact hlt) (by rw [bl_get hlt]; exact hdg)
            have HF := hid (HN2.out  hbad)
            clear hd hbad
            rcases (show (t[k].toNat : Int) < 48 ∨ (¬ (t[k].toNat : Int) < 48 ∧ 57 < (t[k].toNat : Int)) by omega) with c1 | ⟨c1, c2⟩
            · go_wp2_with fail
              go_ret2
              exact ⟨ret_on HF.out, by (repeat (first | with_reducible exact grew_refl _ | with_reducible assumption | with_reducible refine grew_split ?_ | with_reducible refine grew_mk ?_ | with_reducible refine grew_plus ?_ | with_reducible refine grew_alloc ?_ | with_reducible refine grew_drew ?_ | (with_reducible refine grew_set ?_ (by first | exact Nat.le_refl _ | omega | (simp [go_sem]; done) | (simp [go_sem]; omega)))))⟩
            · go_wp2_with fail
              go_ret2
              exact ⟨ret_on HF.out, by (repeat (first | with_reducible exact grew_refl _ | with_reducible assumption | with_reducible refine grew_split ?_ | with_reducible refine grew_mk ?_ | with_reducible refine grew_plus ?_ | with_reducible refine grew_alloc ?_ | with_reducible refine grew_drew ?_ | (with_reducible refine grew_set ?_ (by first | exact Nat.le_refl _ | omega | (simp [go_sem]; done) | (simp [go_sem]; omega)))))⟩
        · obtain rfl : k = t.size := by omega
          rw [List.take_of_length_le (by rw [bl_len]; omega)] at hd
          have HN := hid (HN3.out m hl6 hd)
          clear hd
          have z1 := num_size (-(m : Int)) (by omega) (by omega)
          have hw1 : IntKind.i64.wrap (-(m : Int)) = -(m : Int) := IntWalk.i64_in _ (by omega)
          have hts : (t.size : Int) < (s.size : Int) := by omega
          by_cases hq : num (-(m : Int)) = s
          · have HF := hid (HN.out.trans (if_pos hq))
            have t0 : ((num (-(m : Int))).toList == s.toList) = true := by rw [hq]; simp
            clear hq
            go_wp2_with fail
            refine (s_l1Num _ _ (by omega) (by omega)).mono ?_
            (rintro e w' ⟨rfl, gx, rfl⟩)
            go_wp2_with fail
            go_ret2
            exact ⟨ret_ob HF.out, by (repeat (first | with_reducible exact grew_refl _ | with_reducible assumption | with_reducible refine grew_split ?_ | with_reducible refine grew_mk ?_ | with_reducible refine grew_plus ?_ | with_reducible refine grew_alloc ?_ | with_reducible refine grew_drew ?_ | (with_reducible refine grew_set ?_ (by first | exact Nat.le_refl _ | omega | (simp [go_sem]; done) | (simp [go_sem]; omega)))))⟩
          · have HF := hid (HN.out.trans (if_neg hq))
            have t0 : ((num (-(m : Int))).toList == s.toList) = false := ne_list hq
            clear hq
            go_wp2_with fail
            refine (s_l1Num _ _ (by omega) (by omega)).mono ?_
            (rintro e w' ⟨rfl, gx, rfl⟩)
            go_wp2_with fail
            go_ret2
            exact ⟨ret_on HF.out, by (repeat (first | with_reducible exact grew_refl _ | with_reducible assumption | with_reducible refine grew_split ?_ | with_reducible refine grew_mk ?_ | with_reducible refine grew_plus ?_ | with_reducible refine grew_alloc ?_ | with_reducible refine grew_drew ?_ | (with_reducible refine grew_set ?_ (by first | exact Nat.le_refl _ | omega | (simp [go_sem]; done) | (simp [go_sem]; omega)))))⟩
    · have hin : inB (t.size : Int) 1 6 = false := by simp [inB]; omega
      have HF := hid (HN1.out (by omega))
      go_wp2_with fail
      refine (s_l1In _ _ _ _ hin _).mono ?_
      (rintro e w' ⟨rfl, rfl⟩)
      go_wp2_with fail
      go_ret2
      exact ⟨ret_on HF.out, by (repeat (first | with_reducible exact grew_refl _ | with_reducible assumption | with_reducible refine grew_split ?_ | with_reducible refine grew_mk ?_ | with_reducible refine grew_plus ?_ | with_reducible refine grew_alloc ?_ | with_reducible refine grew_drew ?_ | (with_reducible refine grew_set ?_ (by first | exact Nat.le_refl _ | omega | (simp [go_sem]; done) | (simp [go_sem]; omega)))))⟩
  · obtain ⟨p1, p2, p3⟩ := parse_pos hn
    have HN1 : Hid (¬ (1 ≤ s.size ∧ s.size ≤ 6) → parseF s = none) := hid (fun h => p1 (by omega))
    have HN2 := hid p2
    have HN3 := hid p3
    clear p1 p2 p3
    rcases (show ¬ (1 : Int) < (s.size : Int) ∨ ((1 : Int) < (s.size : Int) ∧ 0 < s.size ∧ (bl s)[0]? ≠ some 45) by by_cases h : 1 < s.size; exact .inr ⟨by omega, by omega, fun e => hn ⟨h, e⟩⟩; exact .inl (by omega)) with hc | ⟨hc, hc0, hc1⟩
    · clear hn
      go_enter Tryz.func105, Tryz.ntmps105
      go_upto_region 4 with fail
      by_cases hlen : 1 ≤ s.size ∧ s.size ≤ 6
      · obtain ⟨hl1, hl6⟩ := hlen
        have hin : inB (s.size : Int) 1 6 = true := by simp [inB]; omega
        go_wp2_with fail
        refine (s_l1In _ _ _ _ hin _).mono ?_
        (rintro e w' ⟨rfl, rfl⟩)
        go_wp2_with fail
        go_loopw [5, 6] (fun n i wr => ∃ (k m : Nat), k ≤ s.size ∧ i = .int .i64 k ∧ n = .int .i64 m ∧ Go.Lib.decFrom 0 ((bl s).take k) = some m ∧ ∃ g, wr = plus w g) (fun _ i _ => s.size - (intOf i).toNat)
        case atStart => exact ⟨0, 0, Nat.zero_le _, rfl, rfl, rfl, by (repeat (first | with_reducible exact grew_refl _ | with_reducible assumption | with_reducible refine grew_split ?_ | with_reducible refine grew_mk ?_ | with_reducible refine grew_plus ?_ | with_reducible refine grew_alloc ?_ | with_reducible refine grew_drew ?_ | (with_reducible refine grew_set ?_ (by first | exact Nat.le_refl _ | omega | (simp [go_sem]; done) | (simp [go_sem]; omega)))))⟩
        case round =>
          obtain ⟨k, m, hk, rfl, rfl, hd, gl, rfl⟩ := hrel
          have hm6 : (m : Int) ≤ 999999 := by have h := decFrom_small hd (by rw [List.length_take, bl_len]; omega); omega
          by_cases hlt : k < s.size
          · by_cases hdg : 48 ≤ s[k].toNat ∧ s[k].toNat ≤ 57
            · obtain ⟨d1, d2⟩ := hdg
              have hst := dec_step (l := bl s) (k := k) (m := m) (by rw [bl_len]; exact hlt) hd (by rw [bl_get hlt]; exact ⟨d1, d2⟩)
              rw [bl_get hlt] at hst
              have HST := hid hst
              clear hst hd
              have c1 : ¬ (s[k].toNat : Int) < 48 := by omega
              have c2 : ¬ 57 < (s[k].toNat : Int) := by omega
              have c3 : IntKind.u8.wrap ((s[k].toNat : Int) - 48) = (s[k].toNat : Int) - 48 := by rw [IntKind.wrap_u8]; omega
              have c4 : (0 : Int) ≤ (s[k].toNat : Int) - 48 := by omega
              have c5 : (s[k].toNat : Int) - 48 ≤ 9 := by omega
              go_wp2_with fail
              go_roundw
              case rel => exact ⟨k + 1, m * 10 + (s[k].toNat - 48), by omega, by go_num, vint (by omega), HST.out, by (repeat (first | with_reducible exact grew_refl _ | with_reducible assumption | with_reducible refine grew_split ?_ | with_reducible refine grew_mk ?_ | with_reducible refine grew_plus ?_ | with_reducible refine grew_alloc ?_ | with_reducible refine grew_drew ?_ | (with_reducible refine grew_set ?_ (by first | exact Nat.le_refl _ | omega | (simp [go_sem]; done) | (simp [go_sem]; omega)))))⟩
              case measure => simp [intOf]; omega
            · have hbad := dec_bad (l := bl s) (k := k) (by rw [bl_len]; exact hlt) (by rw [bl_get hlt]; exact hdg)
              have HF := hid (HN2.out hl1 hbad)
              clear hd hbad
              rcases (show (s[k].toNat : Int) < 48 ∨ (¬ (s[k].toNat : Int) < 48 ∧ 57 < (s[k].toNat : Int)) by omega) with c1 | ⟨c1, c2⟩
              · go_wp2_with fail
                go_ret2
                exact ⟨ret_on HF.out, by (repeat (first | with_reducible exact grew_refl _ | with_reducible assumption | with_reducible refine grew_split ?_ | with_reducible refine grew_mk ?_ | with_reducible refine grew_plus ?_ | with_reducible refine grew_alloc ?_ | with_reducible refine grew_drew ?_ | (with_reducible refine grew_set ?_ (by first | exact Nat.le_refl _ | omega | (simp [go_sem]; done) | (simp [go_sem]; omega)))))⟩
              · go_wp2_with fail
                go_ret2
                exact ⟨ret_on HF.out, by (repeat (first | with_reducible exact grew_refl _ | with_reducible assumption | with_reducible refine grew_split ?_ | with_reducible refine grew_mk ?_ | with_reducible refine grew_plus ?_ | with_reducible refine grew_alloc ?_ | with_reducible refine grew_drew ?_ | (with_reducible refine grew_set ?_ (by first | exact Nat.le_refl _ | omega | (simp [go_sem]; done) | (simp [go_sem]; omega)))))⟩
          · obtain rfl : k = s.size := by omega
            rw [List.take_of_length_le (by rw [bl_len]; omega)] at hd
            have HN := hid (HN3.out m hl1 hl6 hd)
            clear hd
            have z1 := num_size ((m : Int)) (by omega) (by omega)
            by_cases hq : num ((m : Int)) = s
            · have HF := hid (HN.out.trans (if_pos hq))
              have t0 : ((num ((m : Int))).toList == s.toList) = true := by rw [hq]; simp
              clear hq
              go_wp2_with fail
              refine (s_l1Num _ _ (by omega) (by omega)).mono ?_
              (rintro e w' ⟨rfl, gx, rfl⟩)
              go_wp2_with fail
              go_ret2
              exact ⟨ret_ob HF.out, by (repeat (first | with_reducible exact grew_refl _ | with_reducible assumption | with_reducible refine grew_split ?_ | with_reducible refine grew_mk ?_ | with_reducible refine grew_plus ?_ | with_reducible refine grew_alloc ?_ | with_reducible refine grew_drew ?_ | (with_reducible refine grew_set ?_ (by first | exact Nat.le_refl _ | omega | (simp [go_sem]; done) | (simp [go_sem]; omega)))))⟩
            · have HF := hid (HN.out.trans (if_neg hq))
              have t0 : ((num ((m : Int))).toList == s.toList) = false := ne_list hq
              clear hq
              go_wp2_with fail
              refine (s_l1Num _ _ (by omega) (by omega)).mono ?_
              (rintro e w' ⟨rfl, gx, rfl⟩)
              go_wp2_with fail
              go_ret2
              exact ⟨ret_on HF.out, by (repeat (first | with_reducible exact grew_refl _ | with_reducible assumption | with_reducible refine grew_split ?_ | with_reducible refine grew_mk ?_ | with_reducible refine grew_plus ?_ | with_reducible refine grew_alloc ?_ | with_reducible refine grew_drew ?_ | (with_reducible refine grew_set ?_ (by first | exact Nat.le_refl _ | omega | (simp [go_sem]; done) | (simp [go_sem]; omega)))))⟩
      · have hin : inB (s.size : Int) 1 6 = false := by simp [inB]; omega
        have HF := hid (HN1.out (by omega))
        go_wp2_with fail
        refine (s_l1In _ _ _ _ hin _).mono ?_
        (rintro e w' ⟨rfl, rfl⟩)
        go_wp2_with fail
        go_ret2
        exact ⟨ret_on HF.out, by (repeat (first | with_reducible exact grew_refl _ | with_reducible assumption | with_reducible refine grew_split ?_ | with_reducible refine grew_mk ?_ | with_reducible refine grew_plus ?_ | with_reducible refine grew_alloc ?_ | with_reducible refine grew_drew ?_ | (with_reducible refine grew_set ?_ (by first | exact Nat.le_refl _ | omega | (simp [go_sem]; done) | (simp [go_sem]; omega)))))⟩
    · have h45 : ((s[0].toNat : Int) == 45) = false := by
        rw [beq_eq_false_iff_ne]
        intro e
        apply hc1
        rw [List.getElem?_eq_getElem (by rw [bl_len]; omega), bl_get (by omega)]
        congr 1
        apply UInt8.toNat_inj.1
        have h3 : (45 : UInt8).toNat = 45 := rfl
        omega
      clear hn hc1
      go_enter Tryz.func105, Tryz.ntmps105
      go_upto_region 4 with fail
      by_cases hlen : 1 ≤ s.size ∧ s.size ≤ 6
      · obtain ⟨hl1, hl6⟩ := hlen
        have hin : inB (s.size : Int) 1 6 = true := by simp [inB]; omega
        go_wp2_with fail
        refine (s_l1In _ _ _ _ hin _).mono ?_
        (rintro e w' ⟨rfl, rfl⟩)
        go_wp2_with fail
        go_loopw [5, 6] (fun n i wr => ∃ (k m : Nat), k ≤ s.size ∧ i = .int .i64 k ∧ n = .int .i64 m ∧ Go.Lib.decFrom 0 ((bl s).take k) = some m ∧ ∃ g, wr = plus w g) (fun _ i _ => s.size - (intOf i).toNat)
        case atStart => exact ⟨0, 0, Nat.zero_le _, rfl, rfl, rfl, by (repeat (first | with_reducible exact grew_refl _ | with_reducible assumption | with_reducible refine grew_split ?_ | with_reducible refine grew_mk ?_ | with_reducible refine grew_plus ?_ | with_reducible refine grew_alloc ?_ | with_reducible refine grew_drew ?_ | (with_reducible refine grew_set ?_ (by first | exact Nat.le_refl _ | omega | (simp [go_sem]; done) | (simp [go_sem]; omega)))))⟩
        case round =>
          obtain ⟨k, m, hk, rfl, rfl, hd, gl, rfl⟩ := hrel
          have hm6 : (m : Int) ≤ 999999 := by have h := decFrom_small hd (by rw [List.length_take, bl_len]; omega); omega
          by_cases hlt : k < s.size
          · by_cases hdg : 48 ≤ s[k].toNat ∧ s[k].toNat ≤ 57
            · obtain ⟨d1, d2⟩ := hdg
              have hst := dec_step (l := bl s) (k := k) (m := m) (by rw [bl_len]; exact hlt) hd (by rw [bl_get hlt]; exact ⟨d1, d2⟩)
              rw [bl_get hlt] at hst
              have HST := hid hst
              clear hst hd
              have c1 : ¬ (s[k].toNat : Int) < 48 := by omega
              have c2 : ¬ 57 < (s[k].toNat : Int) := by omega
              have c3 : IntKind.u8.wrap ((s[k].toNat : Int) - 48) = (s[k].toNat : Int) - 48 := by rw [IntKind.wrap_u8]; omega
              have c4 : (0 : Int) ≤ (s[k].toNat : Int) - 48 := by omega
              have c5 : (s[k].toNat : Int) - 48 ≤ 9 := by omega
              go_wp2_with fail
              go_roundw
              case rel => exact ⟨k + 1, m * 10 + (s[k].toNat - 48), by omega, by go_num, vint (by omega), HST.out, by (repeat (first | with_reducible exact grew_refl _ | with_reducible assumption | with_reducible refine grew_split ?_ | with_reducible refine grew_mk ?_ | with_reducible refine grew_plus ?_ | with_reducible refine grew_alloc ?_ | with_reducible refine grew_drew ?_ | (with_reducible refine grew_set ?_ (by first | exact Nat.le_refl _ | omega | (simp [go_sem]; done) | (simp [go_sem]; omega)))))⟩
              case measure => simp [intOf]; omega
            · have hbad := dec_bad (l := bl s) (k := k) (by rw [bl_len]; exact hlt) (by rw [bl_get hlt]; exact hdg)
              have HF := hid (HN2.out hl1 hbad)
              clear hd hbad
              rcases (show (s[k].toNat : Int) < 48 ∨ (¬ (s[k].toNat : Int) < 48 ∧ 57 < (s[k].toNat : Int)) by omega) with c1 | ⟨c1, c2⟩
              · go_wp2_with fail
                go_ret2
                exact ⟨ret_on HF.out, by (repeat (first | with_reducible exact grew_refl _ | with_reducible assumption | with_reducible refine grew_split ?_ | with_reducible refine grew_mk ?_ | with_reducible refine grew_plus ?_ | with_reducible refine grew_alloc ?_ | with_reducible refine grew_drew ?_ | (with_reducible refine grew_set ?_ (by first | exact Nat.le_refl _ | omega | (simp [go_sem]; done) | (simp [go_sem]; omega)))))⟩
              · go_wp2_with fail
                go_ret2
                exact ⟨ret_on HF.out, by (repeat (first | with_reducible exact grew_refl _ | with_reducible assumption | with_reducible refine grew_split ?_ | with_reducible refine grew_mk ?_ | with_reducible refine grew_plus ?_ | with_reducible refine grew_alloc ?_ | with_reducible refine grew_drew ?_ | (with_reducible refine grew_set ?_ (by first | exact Nat.le_refl _ | omega | (simp [go_sem]; done) | (simp [go_sem]; omega)))))⟩
          · obtain rfl : k = s.size := by omega
            rw [List.take_of_length_le (by rw [bl_len]; omega)] at hd
            have HN := hid (HN3.out m hl1 hl6 hd)
            clear hd
            have z1 := num_size ((m : Int)) (by omega) (by omega)
            by_cases hq : num ((m : Int)) = s
            · have HF := hid (HN.out.trans (if_pos hq))
              have t0 : ((num ((m : Int))).toList == s.toList) = true := by rw [hq]; simp
              clear hq
              go_wp2_with fail
              refine (s_l1Num _ _ (by omega) (by omega)).mono ?_
              (rintro e w' ⟨rfl, gx, rfl⟩)
              go_wp2_with fail
              go_ret2
              exact ⟨ret_ob HF.out, by (repeat (first | with_reducible exact grew_refl _ | with_reducible assumption | with_reducible refine grew_split ?_ | with_reducible refine grew_mk ?_ | with_reducible refine grew_plus ?_ | with_reducible refine grew_alloc ?_ | with_reducible refine grew_drew ?_ | (with_reducible refine grew_set ?_ (by first | exact Nat.le_refl _ | omega | (simp [go_sem]; done) | (simp [go_sem]; omega)))))⟩
            · have HF := hid (HN.out.trans (if_neg hq))
              have t0 : ((num ((m : Int))).toList == s.toList) = false := ne_list hq
              clear hq
              go_wp2_with fail
              refine (s_l1Num _ _ (by omega) (by omega)).mono ?_
              (rintro e w' ⟨rfl, gx, rfl⟩)
              go_wp2_with fail
              go_ret2
              exact ⟨ret_on HF.out, by (repeat (first | with_reducible exact grew_refl _ | with_reducible assumption | with_reducible refine grew_split ?_ | with_reducible refine grew_mk ?_ | with_reducible refine grew_plus ?_ | with_reducible refine grew_alloc ?_ | with_reducible refine grew_drew ?_ | (with_reducible refine grew_set ?_ (by first | exact Nat.le_refl _ | omega | (simp [go_sem]; done) | (simp [go_sem]; omega)))))⟩
      · have hin : inB (s.size : Int) 1 6 = false := by simp [inB]; omega
        have HF := hid (HN1.out (by omega))
        go_wp2_with fail
        refine (s_l1In _ _ _ _ hin _).mono ?_
        (rintro e w' ⟨rfl, rfl⟩)
        go_wp2_with fail
        go_ret2
        exact ⟨ret_on HF.out, by (repeat (first | with_reducible exact grew_refl _ | with_reducible assumption | with_reducible refine grew_split ?_ | with_reducible refine grew_mk ?_ | with_reducible refine grew_plus ?_ | with_reducible refine grew_alloc ?_ | with_reducible refine grew_drew ?_ | (with_reducible refine grew_set ?_ (by first | exact Nat.le_refl _ | omega | (simp [go_sem]; done) | (simp [go_sem]; omega)))))⟩
set_option maxHeartbeats 1000000 in
theorem s_ParseInt (s : ByteArray) (w : World) (hs : s.size ≤ maxLen) :
    Calls Tryz.prog 81 #[.string s] w fun e w' => e = .returned (.tuple #[.int .i64 ((parseF s).getD 0), .bool (parseF s).isSome]) ∧ ∃ g, w' = plus w g := by
  go_enter Tryz.func81, Tryz.ntmps81
  go_wp2_with fail
  refine (s_l1Read s _ hs).mono ?_
  (rintro e w' ⟨rfl, gx, rfl⟩)
  go_wp2_with fail
  go_ret2
  exact ⟨rfl, by (repeat (first | with_reducible exact grew_refl _ | with_reducible assumption | with_reducible refine grew_split ?_ | with_reducible refine grew_mk ?_ | with_reducible refine grew_plus ?_ | with_reducible refine grew_alloc ?_ | with_reducible refine grew_drew ?_ | (with_reducible refine grew_set ?_ (by first | exact Nat.le_refl _ | omega | (simp [go_sem]; done) | (simp [go_sem]; omega)))))⟩
end Go.Proofs.YtecghfcgahgfiaaGreatDoor
/- The tables that the row lists: what they give, and a world for the witness. -/
namespace Go.Proofs.YtecghfcgahgfiaaGreatDoor
open Go.ChangeShapes Go.WideShapes Go.ChangeAt Go.RowKit

theorem own_knob : ownKnob Tryz.prog.godebug = none := by kernel_rfl
theorem laid_out : laidOutB Tryz.prog = true := by kernel_rfl
theorem gTabType : (Tryz.prog.globals[1]?).map (·.type) = some 164 := by kernel_rfl
theorem tabCells : Tryz.prog.cellsOf 164 = 20 := by kernel_rfl
theorem numCells : Tryz.prog.cellsOf 58 = 1 := by kernel_rfl
/-- What the row's list gives: the table's cells hold its numbers. -/
theorem laid_tab : (Rows.laid_internal_strconv_uint64pow10 : DataW Unit) = Go.Lib.tabData .u64 Go.Lib.pow10Tab := by kernel_rfl
theorem tab_of {W : World} {x y : String × DataW Unit} {rest : List (String × DataW Unit)} (h : laidMet Tryz.prog (x :: y :: (tabN, Rows.laid_internal_strconv_uint64pow10) :: rest) W) : Tab W := by
  rw [laid_tab] at h
  exact Go.Lib.tabIs_of_head gTab gTabType Tryz.underlying164 Tryz.underlying58 numCells tabCells h.tail.tail
def litVal : DataW Unit → Value
  | .lit l => l.value
  | _ => .int .i64 0
def litCells : DataW Unit → Array Value
  | .agg l => (l.map litVal).toArray
  | _ => #[]
def laidObj (d : DataW Unit) : Obj → Obj
  | .cells _ t frozen => .cells (litCells d) t frozen
  | o => o
def flatCells : DataW Unit → Array Value
  | .agg l => (l.flatMap fun x => match x with | .agg m => m.map litVal | y => [litVal y]).toArray
  | _ => #[]
def laidFlat (d : DataW Unit) : Obj → Obj
  | .cells _ t frozen => .cells (flatCells d) t frozen
  | o => o
def laidErr (n : Nat) : Obj → Obj
  | .cells _ t frozen => .cells #[.iface 198 (.pointer (some ⟨n, 0, none⟩))] t frozen
  | o => o
abbrev textRange : ByteArray := ⟨#[118, 97, 108, 117, 101, 32, 111, 117, 116, 32, 111, 102, 32, 114, 97, 110, 103, 101]⟩
abbrev textSyntax : ByteArray := ⟨#[105, 110, 118, 97, 108, 105, 100, 32, 115, 121, 110, 116, 97, 120]⟩
noncomputable def low : Nat := (World.holding Tryz.prog default ⟨#[], #[], []⟩).heap.size
/-- A world that holds the tables and the two errors. -/
noncomputable def laidWorld (os : Os) : World :=
  { World.holding Tryz.prog os ⟨#[.cells #[.string textRange] 200, .cells #[.string textSyntax] 200], #[], []⟩ with heap := (((((((World.holding Tryz.prog os ⟨#[.cells #[.string textRange] 200, .cells #[.string textSyntax] 200], #[], []⟩).heap.modify 6 (laidObj Rows.laid_math_bits_deBruijn32tab)).modify 7 (laidObj Rows.laid_math_bits_deBruijn64tab)).modify 1 (laidObj Rows.laid_internal_strconv_uint64pow10)).modify 5 (laidFlat Rows.laid_unicode_utf8_acceptRanges)).modify 4 (laidObj Rows.laid_unicode_utf8_first)).modify 3 (laidErr low)).modify 2 (laidErr (low + 1)) }
theorem gSyn : Tryz.prog.globalNamed "strconv.ErrSyntax" = some 2 := by kernel_rfl
theorem gSynType : (Tryz.prog.globals[2]?).map (·.type) = some 125 := by kernel_rfl
theorem star_err : "*" ++ "errors.errorString" = "*errors.errorString" := by decide
theorem cells_err : Tryz.prog.cellsOf 200 = 1 := by kernel_rfl
theorem cells_str : Tryz.prog.cellsOf 9 = 1 := by kernel_rfl
theorem row_err (u : TypeId) (h : Tryz.prog.typeName? 3 u = some "*errors.errorString") : u = 198 :=
  typeName_ptr_named (nm := "errors.errorString") (by rw [star_err]; kernel_rfl) (by kernel_rfl) (by decide) u (by rw [star_err]; exact h)
theorem syn_of {W : World} {a b c d e : String × DataW Unit} {rest : List (String × DataW Unit)} (h : laidMet Tryz.prog (a :: b :: c :: d :: e :: ("strconv.ErrSyntax", Rows.laid_strconv_ErrSyntax) :: rest) W) : Syn W := by
  obtain ⟨ad, s, hv, _, _, _⟩ := laid_sentinel h.tail.tail.tail.tail.tail gSyn gSynType Tryz.underlying125 row_err Tryz.underlying198 Tryz.underlying200 rfl rfl Tryz.underlying9 cells_err cells_str
  exact ⟨_, World.var?_cell gSyn hv 0, .inr ⟨_, _, rfl⟩⟩
end Go.Proofs.YtecghfcgahgfiaaGreatDoor
