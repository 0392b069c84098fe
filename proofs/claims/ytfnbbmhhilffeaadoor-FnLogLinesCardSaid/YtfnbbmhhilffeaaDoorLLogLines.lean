/- The law FnLogLines: an encoded record is accepted only at the position of its sequence number, and a recovered log is a fixed point of SyncLog. No condition beyond the row's own: the tables that strconv reads hold what they hold at the start. -/
import Derived.Test.YtfnbbmhhilffeaaDoorLogOpen
import Derived.Test.YtfnbbmhhilffeaaDoorDs
import Derived.Test.YtfnbbmhhilffeaaDoorGLb
namespace Go.Proofs.YtfnbbmhhilffeaaDoor
open Go.ChangeShapes Go.WideShapes Go.ChangeAt Go.RowKit Go.Deep Go.Joins
open Go.ChangeMaps (open_string shut_string)

set_option maxHeartbeats 400000 in
theorem l_vBig (A : Option Addr) (c n : Nat) (w : World) : Calls Tryd.prog 6 #[.slice A n c] w fun e w' => e = .returned (.bool (decide ((65536 : Int) < (n : Int)))) ∧ w = w' := by
  go_enter Tryd.func6, Tryd.ntmps6
  go_wp2
  go_ret
  exact ⟨rfl, rfl⟩
theorem recov_size (t : ByteArray) : (recovF t).1.d.size ≤ t.size ∧ (recovF t).1.p.size = 0 := by
  unfold recovF
  split
  · exact ⟨Nat.zero_le _, rfl⟩
  · refine ⟨?_, rfl⟩
    simp only [ByteArray.size_extract]
    omega
/-- What the encoding of a record is recovered as. -/
theorem enc_cases {k : Int} {r : RecR} {s : ByteArray} {ok : Bool} (h : encF k r = (s, ok)) :
    s.size ≤ 400 ∧ ((ok = false ∧ s = ⟨#[]⟩) ∨ (ok = true ∧ k = 0 ∧ ∃ x f z, recovF s = (x, f, z) ∧ x.n = 1 ∧ 0 < f) ∨ (ok = true ∧ k ≠ 0 ∧ ∃ x z, recovF s = (x, 0, z))) := by
  unfold encF at h
  split at h
  · rename_i hc
    simp only [Bool.and_eq_true] at hc
    obtain ⟨hk, he⟩ := hc
    have hk' : 0 ≤ k ∧ k ≤ 59 := by simpa [inB] using hk
    obtain ⟨n, rfl⟩ := Int.eq_ofNat_of_zero_le hk'.1
    injection h with h1 h2
    simp only [Int.toNat_natCast] at h1
    subst h1 h2
    have hz := lineV_size he (k := n) (by omega)
    obtain ⟨f1, f2⟩ := line_first he (k := n) (by omega)
    refine ⟨hz, .inr ?_⟩
    by_cases h0 : n = 0
    · left
      refine ⟨rfl, by omega, ?_⟩
      subst h0
      refine ⟨_, _, _, f1 rfl, rfl, ?_⟩
      have hb := lineV_bytes 0 r
      have hl := bl_len (lineV 0 r)
      rw [hb, List.length_append, List.length_singleton] at hl
      omega
    · right
      exact ⟨rfl, by omega, (recovF (lineV n r)).1, (recovF (lineV n r)).2.2, by rw [← f2 h0]⟩
  · injection h with h1 h2
    subst h1 h2
    exact ⟨Nat.zero_le _, .inl ⟨rfl, rfl⟩⟩
set_option maxHeartbeats 8000000 in
set_option maxRecDepth 100000 in
theorem l_FnLogLines (A : Option Addr) (c : Nat) (bs : List Int) (w : World) (hA : Sl w 1 byteRow A bs) (hb : ∀ x ∈ bs, 0 ≤ x ∧ x ≤ 255) (_hl : bs.length ≤ maxLen) (hE : Env w) :
    Calls Tryd.prog 4 #[.slice A bs.length c] w fun e' w' => e' = .returned (.bool true) ∧ ∃ g, w' = plus w g := by
  have HA := hid hA
  have HB := hid hb
  have HE := hid hE
  clear hA hb hE
  by_cases hbig : (65536 : Int) < (bs.length : Int)
  · go_enter Tryd.func4, Tryd.ntmps4
    go_wp2_with (go_at_call 6; refine (l_vBig _ _ _ _).mono ?_; (rintro e w' ⟨rfl, rfl⟩))
    go_ret
    exact ⟨rfl, by (repeat (first | with_reducible exact grew_refl _ | with_reducible assumption | with_reducible refine grew_split ?_ | with_reducible refine grew_mk ?_ | with_reducible refine grew_plus ?_ | with_reducible refine grew_alloc ?_ | with_reducible refine grew_drew ?_ | (with_reducible refine grew_set ?_ (by first | exact Nat.le_refl _ | omega | (simp [go_sem]; done) | (simp [go_sem]; omega)))))⟩
  have HC := hid (show Code0 w A bs from ⟨HA.out, HB.out, by omega⟩)
  go_enter Tryd.func4, Tryd.ntmps4
  go_wp2_with (go_at_call 6; refine (l_vBig _ _ _ _).mono ?_; (rintro e w' ⟨rfl, rfl⟩))
  refine (s_DrawEncode A c bs _ HC.out).mono ?_
  rintro e W1 ⟨⟨k, r, rfl, k0, k1, hr1, hr2⟩, hg⟩
  have HG := hid hg
  have HE1 := hid (HE.out.grew hg)
  clear hg
  obtain ⟨s, ok, hs⟩ : ∃ s ok, encF k r = (s, ok) := ⟨_, _, rfl⟩
  have HS := hid hs
  obtain ⟨hsz, hcs⟩ := enc_cases hs
  have HCS := hid hcs
  clear hs hcs
  go_wp2_with fail
  refine (i_EncodeRecord k r _ (by unfold maxLen; omega) (by unfold maxLen; omega) (HE1.out.grew (by (repeat (first | with_reducible exact grew_refl _ | with_reducible assumption | with_reducible refine grew_split ?_ | with_reducible refine grew_mk ?_ | with_reducible refine grew_plus ?_ | with_reducible refine grew_alloc ?_ | with_reducible refine grew_drew ?_ | (with_reducible refine grew_set ?_ (by first | exact Nat.le_refl _ | omega | (simp [go_sem]; done) | (simp [go_sem]; omega)))))))).mono ?_
  rw [HS.out]
  rintro e w' ⟨rfl, g1, rfl⟩
  go_wp2_with fail
  refine (s_EncodeRecord k r _ (by unfold maxLen; omega) (by unfold maxLen; omega) (HE1.out.grew (by (repeat (first | with_reducible exact grew_refl _ | with_reducible assumption | with_reducible refine grew_split ?_ | with_reducible refine grew_mk ?_ | with_reducible refine grew_plus ?_ | with_reducible refine grew_alloc ?_ | with_reducible refine grew_drew ?_ | (with_reducible refine grew_set ?_ (by first | exact Nat.le_refl _ | omega | (simp [go_sem]; done) | (simp [go_sem]; omega)))))))).mono ?_
  rw [HS.out]
  rintro e w' ⟨rfl, g2, rfl⟩
  go_wp2_with fail
  refine (s_DrawRecover A c bs _ (HC.out.grewC (by have hg := HG.out; (repeat (first | with_reducible exact grew_refl _ | with_reducible assumption | with_reducible refine grew_split ?_ | with_reducible refine grew_mk ?_ | with_reducible refine grew_plus ?_ | with_reducible refine grew_alloc ?_ | with_reducible refine grew_drew ?_ | (with_reducible refine grew_set ?_ (by first | exact Nat.le_refl _ | omega | (simp [go_sem]; done) | (simp [go_sem]; omega))))))) (HE1.out.grew (by (repeat (first | with_reducible exact grew_refl _ | with_reducible assumption | with_reducible refine grew_split ?_ | with_reducible refine grew_mk ?_ | with_reducible refine grew_plus ?_ | with_reducible refine grew_alloc ?_ | with_reducible refine grew_drew ?_ | (with_reducible refine grew_set ?_ (by first | exact Nat.le_refl _ | omega | (simp [go_sem]; done) | (simp [go_sem]; omega)))))))).mono ?_
  rintro e W2 ⟨⟨t, rfl, ht⟩, hg2⟩
  have hgw : ∃ g, W2 = plus w g := by
    have hg := HG.out
    obtain ⟨_, rfl⟩ := hg2
    (repeat (first | with_reducible exact grew_refl _ | with_reducible assumption | with_reducible refine grew_split ?_ | with_reducible refine grew_mk ?_ | with_reducible refine grew_plus ?_ | with_reducible refine grew_alloc ?_ | with_reducible refine grew_drew ?_ | (with_reducible refine grew_set ?_ (by first | exact Nat.le_refl _ | omega | (simp [go_sem]; done) | (simp [go_sem]; omega)))))
  have HG2 := hid hgw
  have HE2 := hid (HE.out.grew hgw)
  clear hg2 hgw HE1 HG
  obtain ⟨m, en, told, hm⟩ : ∃ m en told, recovF t = (m, en, told) := ⟨_, _, _, rfl⟩
  have hmz := recov_size t
  rw [hm] at hmz
  obtain ⟨z1, z2⟩ := hmz
  have z1' : m.d.size ≤ 100000 := by simp only at z1; omega
  have z2' : m.p.size ≤ 100000 := by simp only at z2; omega
  have HM := hid hm
  clear hm z1 z2
  go_wp2_with fail
  refine (i_RecoverLog t _ (by omega) (HE2.out.grew (by (repeat (first | with_reducible exact grew_refl _ | with_reducible assumption | with_reducible refine grew_split ?_ | with_reducible refine grew_mk ?_ | with_reducible refine grew_plus ?_ | with_reducible refine grew_alloc ?_ | with_reducible refine grew_drew ?_ | (with_reducible refine grew_set ?_ (by first | exact Nat.le_refl _ | omega | (simp [go_sem]; done) | (simp [go_sem]; omega)))))))).mono ?_
  rw [HM.out]
  rintro e w' ⟨rfl, g3, rfl⟩
  go_wp2_with fail
  refine (s_RecoverLog t _ (by omega) (HE2.out.grew (by (repeat (first | with_reducible exact grew_refl _ | with_reducible assumption | with_reducible refine grew_split ?_ | with_reducible refine grew_mk ?_ | with_reducible refine grew_plus ?_ | with_reducible refine grew_alloc ?_ | with_reducible refine grew_drew ?_ | (with_reducible refine grew_set ?_ (by first | exact Nat.le_refl _ | omega | (simp [go_sem]; done) | (simp [go_sem]; omega)))))))).mono ?_
  rw [HM.out]
  rintro e w' ⟨rfl, g4, rfl⟩
  have e1 : (s.toList == s.toList) = true := by simp
  have e2 : (ok != ok) = false := by simp
  have e3 : (m.d.toList == m.d.toList) = true := by simp
  have e4 : (m.p.toList == m.p.toList) = true := by simp
  have e5 : (m.n == m.n) = true := by simp
  have e6 : (en != en) = false := by simp
  have e7 : (told != told) = false := by simp
  rcases HCS.out with ⟨rfl, rfl⟩ | ⟨rfl, rfl, x, f, z, hx, hx1, hf⟩ | ⟨rfl, hk0, x, z, hx⟩
  · go_wp2_with fail
    refine (i_RecoverLog ⟨#[]⟩ _ (by decide) (HE2.out.grew (by (repeat (first | with_reducible exact grew_refl _ | with_reducible assumption | with_reducible refine grew_split ?_ | with_reducible refine grew_mk ?_ | with_reducible refine grew_plus ?_ | with_reducible refine grew_alloc ?_ | with_reducible refine grew_drew ?_ | (with_reducible refine grew_set ?_ (by first | exact Nat.le_refl _ | omega | (simp [go_sem]; done) | (simp [go_sem]; omega)))))))).mono ?_
    (rintro e w' ⟨rfl, gx, rfl⟩)
    (by_cases ht3 : t.size ≤ 30000; (· (obtain ⟨v1, v2⟩ := recov_ok ht3; have v3 := recov_fix ht3; rw [HM.out] at v1 v2 v3; simp only at v1 v2 v3; subst v2; have HV1 := hid v1; have HV3 := hid v3; clear v1 v3 ht3; go_wp2_with fail; refine (i_SyncLog m _ (by omega) (by omega) (HE2.out.grew (by (repeat (first | with_reducible exact grew_refl _ | with_reducible assumption | with_reducible refine grew_split ?_ | with_reducible refine grew_mk ?_ | with_reducible refine grew_plus ?_ | with_reducible refine grew_alloc ?_ | with_reducible refine grew_drew ?_ | (with_reducible refine grew_set ?_ (by first | exact Nat.le_refl _ | omega | (simp [go_sem]; done) | (simp [go_sem]; omega)))))))).mono ?_; rw [HV3.out]; (rintro e w' ⟨rfl, gx, rfl⟩); go_wp2_with fail; refine (i_IsValidLog m _ HV1.out _ (by omega) (by omega) (HE2.out.grew (by (repeat (first | with_reducible exact grew_refl _ | with_reducible assumption | with_reducible refine grew_split ?_ | with_reducible refine grew_mk ?_ | with_reducible refine grew_plus ?_ | with_reducible refine grew_alloc ?_ | with_reducible refine grew_drew ?_ | (with_reducible refine grew_set ?_ (by first | exact Nat.le_refl _ | omega | (simp [go_sem]; done) | (simp [go_sem]; omega)))))))).mono ?_; (rintro e w' ⟨rfl, gx, rfl⟩); go_wp2_with fail; go_ret; have hg := HG2.out; exact ⟨rfl, by (repeat (first | with_reducible exact grew_refl _ | with_reducible assumption | with_reducible refine grew_split ?_ | with_reducible refine grew_mk ?_ | with_reducible refine grew_plus ?_ | with_reducible refine grew_alloc ?_ | with_reducible refine grew_drew ?_ | (with_reducible refine grew_set ?_ (by first | exact Nat.le_refl _ | omega | (simp [go_sem]; done) | (simp [go_sem]; omega)))))⟩)); (· (have v4 := recov_big ht3; rw [HM.out] at v4; injection v4 with v5 v6; injection v6 with v7 v8; subst v8; clear v5 v7 ht3; go_wp2_with fail; refine (i_SyncLog m _ (by omega) (by omega) (HE2.out.grew (by (repeat (first | with_reducible exact grew_refl _ | with_reducible assumption | with_reducible refine grew_split ?_ | with_reducible refine grew_mk ?_ | with_reducible refine grew_plus ?_ | with_reducible refine grew_alloc ?_ | with_reducible refine grew_drew ?_ | (with_reducible refine grew_set ?_ (by first | exact Nat.le_refl _ | omega | (simp [go_sem]; done) | (simp [go_sem]; omega)))))))).mono ?_; (rintro e w' ⟨rfl, gx, rfl⟩); go_wp2_with fail; go_ret; have hg := HG2.out; exact ⟨rfl, by (repeat (first | with_reducible exact grew_refl _ | with_reducible assumption | with_reducible refine grew_split ?_ | with_reducible refine grew_mk ?_ | with_reducible refine grew_plus ?_ | with_reducible refine grew_alloc ?_ | with_reducible refine grew_drew ?_ | (with_reducible refine grew_set ?_ (by first | exact Nat.le_refl _ | omega | (simp [go_sem]; done) | (simp [go_sem]; omega)))))⟩)))
  · have HX := hid hx
    have n1 : (x.n != 1) = false := by simp [hx1]
    clear hx hx1
    go_wp2_with fail
    refine (i_RecoverLog s _ (by omega) (HE2.out.grew (by (repeat (first | with_reducible exact grew_refl _ | with_reducible assumption | with_reducible refine grew_split ?_ | with_reducible refine grew_mk ?_ | with_reducible refine grew_plus ?_ | with_reducible refine grew_alloc ?_ | with_reducible refine grew_drew ?_ | (with_reducible refine grew_set ?_ (by first | exact Nat.le_refl _ | omega | (simp [go_sem]; done) | (simp [go_sem]; omega)))))))).mono ?_
    rw [HX.out]
    (rintro e w' ⟨rfl, gx, rfl⟩)
    (by_cases ht3 : t.size ≤ 30000; (· (obtain ⟨v1, v2⟩ := recov_ok ht3; have v3 := recov_fix ht3; rw [HM.out] at v1 v2 v3; simp only at v1 v2 v3; subst v2; have HV1 := hid v1; have HV3 := hid v3; clear v1 v3 ht3; go_wp2_with fail; refine (i_SyncLog m _ (by omega) (by omega) (HE2.out.grew (by (repeat (first | with_reducible exact grew_refl _ | with_reducible assumption | with_reducible refine grew_split ?_ | with_reducible refine grew_mk ?_ | with_reducible refine grew_plus ?_ | with_reducible refine grew_alloc ?_ | with_reducible refine grew_drew ?_ | (with_reducible refine grew_set ?_ (by first | exact Nat.le_refl _ | omega | (simp [go_sem]; done) | (simp [go_sem]; omega)))))))).mono ?_; rw [HV3.out]; (rintro e w' ⟨rfl, gx, rfl⟩); go_wp2_with fail; refine (i_IsValidLog m _ HV1.out _ (by omega) (by omega) (HE2.out.grew (by (repeat (first | with_reducible exact grew_refl _ | with_reducible assumption | with_reducible refine grew_split ?_ | with_reducible refine grew_mk ?_ | with_reducible refine grew_plus ?_ | with_reducible refine grew_alloc ?_ | with_reducible refine grew_drew ?_ | (with_reducible refine grew_set ?_ (by first | exact Nat.le_refl _ | omega | (simp [go_sem]; done) | (simp [go_sem]; omega)))))))).mono ?_; (rintro e w' ⟨rfl, gx, rfl⟩); go_wp2_with fail; go_ret; have hg := HG2.out; exact ⟨rfl, by (repeat (first | with_reducible exact grew_refl _ | with_reducible assumption | with_reducible refine grew_split ?_ | with_reducible refine grew_mk ?_ | with_reducible refine grew_plus ?_ | with_reducible refine grew_alloc ?_ | with_reducible refine grew_drew ?_ | (with_reducible refine grew_set ?_ (by first | exact Nat.le_refl _ | omega | (simp [go_sem]; done) | (simp [go_sem]; omega)))))⟩)); (· (have v4 := recov_big ht3; rw [HM.out] at v4; injection v4 with v5 v6; injection v6 with v7 v8; subst v8; clear v5 v7 ht3; go_wp2_with fail; refine (i_SyncLog m _ (by omega) (by omega) (HE2.out.grew (by (repeat (first | with_reducible exact grew_refl _ | with_reducible assumption | with_reducible refine grew_split ?_ | with_reducible refine grew_mk ?_ | with_reducible refine grew_plus ?_ | with_reducible refine grew_alloc ?_ | with_reducible refine grew_drew ?_ | (with_reducible refine grew_set ?_ (by first | exact Nat.le_refl _ | omega | (simp [go_sem]; done) | (simp [go_sem]; omega)))))))).mono ?_; (rintro e w' ⟨rfl, gx, rfl⟩); go_wp2_with fail; go_ret; have hg := HG2.out; exact ⟨rfl, by (repeat (first | with_reducible exact grew_refl _ | with_reducible assumption | with_reducible refine grew_split ?_ | with_reducible refine grew_mk ?_ | with_reducible refine grew_plus ?_ | with_reducible refine grew_alloc ?_ | with_reducible refine grew_drew ?_ | (with_reducible refine grew_set ?_ (by first | exact Nat.le_refl _ | omega | (simp [go_sem]; done) | (simp [go_sem]; omega)))))⟩)))
  · have HX := hid hx
    have n1 : (k == 0) = false := by simp [hk0]
    clear hx hk0
    go_wp2_with fail
    refine (i_RecoverLog s _ (by omega) (HE2.out.grew (by (repeat (first | with_reducible exact grew_refl _ | with_reducible assumption | with_reducible refine grew_split ?_ | with_reducible refine grew_mk ?_ | with_reducible refine grew_plus ?_ | with_reducible refine grew_alloc ?_ | with_reducible refine grew_drew ?_ | (with_reducible refine grew_set ?_ (by first | exact Nat.le_refl _ | omega | (simp [go_sem]; done) | (simp [go_sem]; omega)))))))).mono ?_
    rw [HX.out]
    (rintro e w' ⟨rfl, gx, rfl⟩)
    (by_cases ht3 : t.size ≤ 30000; (· (obtain ⟨v1, v2⟩ := recov_ok ht3; have v3 := recov_fix ht3; rw [HM.out] at v1 v2 v3; simp only at v1 v2 v3; subst v2; have HV1 := hid v1; have HV3 := hid v3; clear v1 v3 ht3; go_wp2_with fail; refine (i_SyncLog m _ (by omega) (by omega) (HE2.out.grew (by (repeat (first | with_reducible exact grew_refl _ | with_reducible assumption | with_reducible refine grew_split ?_ | with_reducible refine grew_mk ?_ | with_reducible refine grew_plus ?_ | with_reducible refine grew_alloc ?_ | with_reducible refine grew_drew ?_ | (with_reducible refine grew_set ?_ (by first | exact Nat.le_refl _ | omega | (simp [go_sem]; done) | (simp [go_sem]; omega)))))))).mono ?_; rw [HV3.out]; (rintro e w' ⟨rfl, gx, rfl⟩); go_wp2_with fail; refine (i_IsValidLog m _ HV1.out _ (by omega) (by omega) (HE2.out.grew (by (repeat (first | with_reducible exact grew_refl _ | with_reducible assumption | with_reducible refine grew_split ?_ | with_reducible refine grew_mk ?_ | with_reducible refine grew_plus ?_ | with_reducible refine grew_alloc ?_ | with_reducible refine grew_drew ?_ | (with_reducible refine grew_set ?_ (by first | exact Nat.le_refl _ | omega | (simp [go_sem]; done) | (simp [go_sem]; omega)))))))).mono ?_; (rintro e w' ⟨rfl, gx, rfl⟩); go_wp2_with fail; go_ret; have hg := HG2.out; exact ⟨rfl, by (repeat (first | with_reducible exact grew_refl _ | with_reducible assumption | with_reducible refine grew_split ?_ | with_reducible refine grew_mk ?_ | with_reducible refine grew_plus ?_ | with_reducible refine grew_alloc ?_ | with_reducible refine grew_drew ?_ | (with_reducible refine grew_set ?_ (by first | exact Nat.le_refl _ | omega | (simp [go_sem]; done) | (simp [go_sem]; omega)))))⟩)); (· (have v4 := recov_big ht3; rw [HM.out] at v4; injection v4 with v5 v6; injection v6 with v7 v8; subst v8; clear v5 v7 ht3; go_wp2_with fail; refine (i_SyncLog m _ (by omega) (by omega) (HE2.out.grew (by (repeat (first | with_reducible exact grew_refl _ | with_reducible assumption | with_reducible refine grew_split ?_ | with_reducible refine grew_mk ?_ | with_reducible refine grew_plus ?_ | with_reducible refine grew_alloc ?_ | with_reducible refine grew_drew ?_ | (with_reducible refine grew_set ?_ (by first | exact Nat.le_refl _ | omega | (simp [go_sem]; done) | (simp [go_sem]; omega)))))))).mono ?_; (rintro e w' ⟨rfl, gx, rfl⟩); go_wp2_with fail; go_ret; have hg := HG2.out; exact ⟨rfl, by (repeat (first | with_reducible exact grew_refl _ | with_reducible assumption | with_reducible refine grew_split ?_ | with_reducible refine grew_mk ?_ | with_reducible refine grew_plus ?_ | with_reducible refine grew_alloc ?_ | with_reducible refine grew_drew ?_ | (with_reducible refine grew_set ?_ (by first | exact Nat.le_refl _ | omega | (simp [go_sem]; done) | (simp [go_sem]; omega)))))⟩)))
theorem fnLogLines_met (os : Os) : laidMet Tryd.prog Rows.fnLogLinesRow.laid ((laidWorld os).forCall (fun _ _ => 0) ⟨#[], #[.slice none 0 0], []⟩).memory :=
  laidMet_of_run' 8 (by kernel_rfl) (by kernel_rfl)
theorem fnLogLines_reads (os : Os) {H : Type} (enc : TypeId × Value → H) : ∃ places, DataW.whole enc Tryd.prog ((laidWorld os).forCall (fun _ _ => 0) ⟨#[], #[.slice none 0 0], []⟩).memory Tryd.f4.params.toList Rows.fnLogLinesSpec.vars false (#[.slice none 0 0] : Array Value).toList 8 = some ([.nil], [], places) :=
  ⟨[], by kernel_rfl⟩
set_option maxRecDepth 100000 in
theorem fnLogLines_contract (H : Type) (enc : TypeId × Value → H) (W : World) (base : Nat) (args : Array Value) (ds gs : List (DataW H)) (before : List MemPlace)
    (hval0 : ∀ (j : Nat) t v, Tryd.f4.params[j]? = some t → args[j]? = some v → Value.okWide Tryd.prog W .any base t v)
    (hW : DataW.Whole enc Tryd.prog Tryd.f4.params.toList Rows.fnLogLinesSpec.vars false W args.toList ds gs before) (hL : laidMetH Tryd.prog Rows.fnLogLinesRow.laid W) (_hsh : W.ShapedOpen Tryd.prog) :
    Calls Tryd.prog 4 args W fun e W' => ∃ v, e = .returned v ∧ Rows.fnLogLinesSpec.post enc Tryd.prog Tryd.f4 false true false false W args v W' := by
  have hT : Tab W := tab_of hL
  have hval := hval0
  have hW' := hW
  obtain ⟨p, q, hA0, hV, rfl, hfz, hnd⟩ := hW
  have hA : DataW.TrodAll enc Tryd.prog W 0 (fun _ => true) true Tryd.f4.params.toList args.toList ds p := hA0
  rw [Tryd.params4] at hA hval
  obtain ⟨v0, vs0, d0, ds0, p0, q0, hargs, rfl, rfl, h0, r0⟩ := trodAll_cons hA
  obtain ⟨rfl, rfl, rfl⟩ := trodAll_nil r0
  obtain rfl : args = #[v0] := by cases args; simp_all
  obtain ⟨rfl, rfl⟩ := trodVars_none hV
  have k0 := h0
  have lt0 : ∀ x ∈ p0, x.block < W.heap.size := by obtain ⟨m, hm⟩ := k0; exact DataW.trod_lt m _ _ _ hm
  obtain ⟨A, c, l, rfl, hS, hb, hl⟩ := open_code (hval 0 22 v0 rfl rfl) h0
  clear hA0 hval0
  refine (l_FnLogLines A c l W hS hb hl (env_of hT _hsh)).mono fun e W' ⟨he, hg⟩ => ?_
  have bel := below_of_grew hg
  subst he
  exact ⟨_, rfl, _, _, _, [], _, [], hW', trodAll_mk1 (shut_bool Tryd.underlying4 _), (trodAll_cons_mk (Below.trod laid_out (by kernel_rfl) (of_decide_eq_true (by kernel_rfl)) k0 bel lt0) trodAll_mk0), rfl, bel.frame _, fun h => by cases h⟩
set_option maxRecDepth 100000 in
theorem fnLogLines_lifted (os : Os) (started : os.Started) (H : Type) (enc : TypeId × Value → H) (F : Stop.Interp) :
    ReturnsInHanded {} Tryd.checked os 4 .any ((OpenSpec.ofChange Rows.fnLogLinesSpec).preRow enc Tryd.prog Tryd.f4 Rows.fnLogLinesRow.domain false Rows.fnLogLinesRow.laid) (((OpenSpec.ofChange Rows.fnLogLinesSpec).at F).post enc Tryd.prog Tryd.f4 false true false false) := by
  obtain ⟨places, hx⟩ := fnLogLines_reads os enc
  refine returnsInHanded_of_row (C := Tryd.checked) (s := OpenSpec.ofChange Rows.fnLogLinesSpec) own_knob started (by kernel_rfl) Tryd.func4
    (witness_row_at (enc := enc) (C := Tryd.checked) false (laidWorld os) #[.slice none 0 0] rfl (by kernel_rfl) (by kernel_rfl) (by kernel_rfl)
      (OpenSpec.preRow_of_cond 8 hx (by kernel_rfl) (fun k hk => by cases hk) (by kernel_rfl) (fnLogLines_met os))) ?_
  intro W base args ds gs before hval hW _ _ _ hL hsh _
  exact fnLogLines_contract H enc W base args ds gs before hval hW hL hsh
theorem fnLogLines_said : Rows.FnLogLinesSaid :=
  OpenClaim.holds_of_cond 4 Tryd.f4 rfl rfl rfl rfl rfl rfl rfl ⟨rfl, rfl, rfl, rfl, rfl⟩ rfl rfl rfl rfl rfl (by kernel_rfl) Tryd.func4 (by kernel_rfl)
    (of_decide_eq_true (by kernel_rfl)) (by unfold Func.isWrapper; first | (rw [if_pos (by decide +kernel)]; kernel_rfl) | (rw [if_neg (by decide +kernel)]; exact ⟨rfl, rfl⟩))
    (fun os started H enc _ F => by rw [OpenClaim.pre_eq_preRow]; exact fnLogLines_lifted os started H enc F)
theorem fnLogLines_plain (f : FuncId) (fn : Func) (hf : Tryd.pinned.checked.prog.funcNamed Rows.fnLogLinesRow.func = some f) (hfn : Tryd.pinned.checked.prog.funcs[f]? = some fn) :
    false = Tryd.pinned.checked.prog.looks [] ∧ ∀ (j : Nat) t, fn.params[j]? = some t → Tryd.pinned.checked.prog.wantsStandIn t = false := by
  obtain rfl : f = 4 := Option.some.inj ((show Tryd.prog.funcNamed Rows.fnLogLinesRow.func = some 4 by kernel_rfl).symm.trans hf) |>.symm
  obtain rfl : fn = Tryd.f4 := (Option.some.inj (Tryd.func4.symm.trans hfn)).symm
  refine ⟨by kernel_rfl, fun j t ht => ?_⟩
  have h : ∀ t ∈ Tryd.f4.params.toList, Tryd.prog.wantsStandIn t = false := by rw [Tryd.params4]; intro t ht; simp at ht; rcases ht with rfl <;> kernel_rfl
  exact h t (by simpa using Array.mem_of_getElem? ht)
theorem fnLogLines_holds : Rows.FnLogLinesCardSaid :=
  Claim7.holds_tied_plain_at .later [] _ _ _ _ fnLogLines_said (fun _ h => by cases h) (by kernel_rfl) (fun _ h => by cases h) fnLogLines_row_tie rfl ⟨rfl, rfl⟩ (by kernel_rfl) rfl fnLogLines_plain (by kernel_rfl)
end Go.Proofs.YtfnbbmhhilffeaaDoor
