/- The text of a light, in both packages. -/
import Derived.Test.YtjlaidjogladaaaDoorN1
import Derived.Test.YtjlaidjogladaaaDoorLi3
namespace Go.Proofs.YtjlaidjogladaaaDoor
open Go.RowKit

def bsL (l : List UInt8) : ByteArray := ⟨l.toArray⟩
def phT (p : PhaseR) : ByteArray := (if p.lit then bsL [32, 43] else bsL [32, 45]) ++ num p.tenths
def headL (v : LightC) : ByteArray := v.nm ++ bsL [32] ++ num ((per v.ph : Int) / 10) ++ bsL [46] ++ num ((per v.ph : Int) % 10) ++ bsL [115]
def lightTo (v : LightC) (k : Nat) : ByteArray := ((v.ph.take k).map phT).foldl (· ++ ·) (headL v)
theorem lightTo_succ {v : LightC} {k : Nat} (h : k < v.ph.length) : lightTo v (k + 1) = lightTo v k ++ phT v.ph[k] := by
  unfold lightTo; rw [List.take_succ_eq_append_getElem h, List.map_append, List.foldl_append]; rfl
theorem phT_size {p : PhaseR} (h0 : 1 ≤ p.tenths) (h1 : p.tenths ≤ 200) : (phT p).size ≤ 16 := by
  have z := num_size p.tenths (by omega) (by omega)
  have a1 : (bsL [32, 43]).size = 2 := rfl
  have a2 : (bsL [32, 45]).size = 2 := rfl
  unfold phT
  split <;> simp only [ByteArray.size_append] <;> omega
theorem headL_size {v : LightC} (h : v.ok = true) : (headL v).size ≤ 60 := by
  obtain ⟨p1, p2⟩ := (v.phok h).per
  have z1 := num_size ((per v.ph : Int) / 10) (by omega) (by omega)
  have z2 := num_size ((per v.ph : Int) % 10) (by omega) (by omega)
  have a1 : (bsL [32]).size = 1 := rfl
  have a2 : (bsL [46]).size = 1 := rfl
  have a3 : (bsL [115]).size = 1 := rfl
  have z0 : v.nm.size ≤ 10 := by
    simp only [LightC.ok, Bool.and_eq_true] at h
    exact wordB_size h.1.1.1.1.1.2
  simp only [headL, ByteArray.size_append]
  omega
theorem lightTo_size {v : LightC} (h : v.ok = true) : ∀ k, k ≤ v.ph.length → (lightTo v k).size ≤ 60 + 16 * k := by
  intro k
  induction k with
  | zero => intro _; exact headL_size h
  | succ k ih =>
    intro hk
    have := ih (by omega)
    obtain ⟨t1, t2⟩ := v.ten h (k := k) (by omega)
    have := phT_size t1 t2
    rw [lightTo_succ (by omega), ByteArray.size_append]
    omega
def lightF (v : LightC) : ByteArray × Bool := if v.ok then (lightTo v v.ph.length, true) else (ByteArray.empty, false)
set_option maxHeartbeats 2000000 in
theorem i_LightText (v : LightV) (w : World) (hv : v.At w) (hT : Tab w) :
    Calls Tryd.prog 14 #[v.val] w fun e w' => e = .returned (.tuple #[.string (lightF v.core).1, .bool (lightF v.core).2]) ∧ ∃ g, w' = plus w g := by
  have HV := hid hv
  have HT := hid hT
  clear hv hT
  cases ho : v.core.ok
  · have HF : Hid (lightF v.core = (ByteArray.empty, false)) := hid (by simp [lightF, ho])
    go_enter Tryd.func14, Tryd.ntmps14
    go_wp2_with (go_at_call 10; refine (i_IsLight v _ ho _ (HV.out.alloc _)).mono ?_; (rintro e w' ⟨rfl, gx, rfl⟩))
    go_ret2
    exact ⟨ret_strb (by rw [HF.out]; rfl) (by rw [HF.out]), by (repeat (first | with_reducible exact grew_refl _ | with_reducible assumption | with_reducible refine grew_split ?_ | with_reducible refine grew_mk ?_ | with_reducible refine grew_plus ?_ | with_reducible refine grew_alloc ?_ | with_reducible refine grew_drew ?_ | (with_reducible refine grew_set ?_ (by first | exact Nat.le_refl _ | omega | (simp [go_sem]; done) | (simp [go_sem]; omega)))))⟩
  · have HF : Hid (lightF v.core = (lightTo v.core v.core.ph.length, true)) := hid (by simp [lightF, ho])
    obtain ⟨⟨id, nm, x, y, rg, ph⟩, A, c⟩ := v
    have HZ := hid (fun k (hk : k ≤ ph.length) => lightTo_size ho k hk)
    have HS := hid (fun k (hk : k < ph.length) => lightTo_succ (v := ⟨id, nm, x, y, rg, ph⟩) hk)
    have z0 : nm.size ≤ 10 := by
      have h := ho
      simp only [LightC.ok, Bool.and_eq_true] at h
      exact wordB_size h.1.1.1.1.1.2
    have HK := hid (LightC.phok ho)
    have hl1 := HK.out.1
    have hl2 := HK.out.2.1
    obtain ⟨p1, p2⟩ := HK.out.per
    simp only at hl1 hl2 p1 p2 HF ⊢
    have z1 := num_size ((per ph : Int) / 10) (by omega) (by omega)
    have z2 := num_size ((per ph : Int) % 10) (by omega) (by omega)
    go_enter Tryd.func14, Tryd.ntmps14
    go_wp2_with fail
    refine (i_IsLight _ _ ho _ (HV.out.alloc _)).mono ?_
    (rintro e w' ⟨rfl, gx, rfl⟩)
    go_wp2_with fail
    refine (i_periodOf _ HK.out _ (HV.out.grew (by (repeat (first | with_reducible exact grew_refl _ | with_reducible assumption | with_reducible refine grew_split ?_ | with_reducible refine grew_mk ?_ | with_reducible refine grew_plus ?_ | with_reducible refine grew_alloc ?_ | with_reducible refine grew_drew ?_ | (with_reducible refine grew_set ?_ (by first | exact Nat.le_refl _ | omega | (simp [go_sem]; done) | (simp [go_sem]; omega)))))))).mono ?_
    (rintro e w' ⟨rfl, gx, rfl⟩)
    go_wp2_with fail
    (refine wp_region_calm (by kernel_rfl) (by kernel_rfl) ?_; (repeat' (first | go_big_quiet_step (((go_at_call 31; first | exact calm_of (i_Itoa _ _ (by omega) (by omega) (HT.out.grew (by (repeat (first | with_reducible exact grew_refl _ | with_reducible assumption | with_reducible refine grew_split ?_ | with_reducible refine grew_mk ?_ | with_reducible refine grew_plus ?_ | with_reducible refine grew_alloc ?_ | with_reducible refine grew_drew ?_ | (with_reducible refine grew_set ?_ (by first | exact Nat.le_refl _ | omega | (simp [go_sem]; done) | (simp [go_sem]; omega)))))))) | exact calm_add (i_Itoa _ _ (by omega) (by omega) (HT.out.grew (by (repeat (first | with_reducible exact grew_refl _ | with_reducible assumption | with_reducible refine grew_split ?_ | with_reducible refine grew_mk ?_ | with_reducible refine grew_plus ?_ | with_reducible refine grew_alloc ?_ | with_reducible refine grew_drew ?_ | (with_reducible refine grew_set ?_ (by first | exact Nat.le_refl _ | omega | (simp [go_sem]; done) | (simp [go_sem]; omega))))))))))) | (refine wpQuiet_step (fun K hK => ?_); go_simp; go_ite <;> go_simp <;> (first | (refine hK _ ?_; clear hK K) | (apply Exists.intro; refine ⟨fun _ => ?_, hK _ ?_⟩; (((go_at_call 31; first | exact calm_of (i_Itoa _ _ (by omega) (by omega) (HT.out.grew (by (repeat (first | with_reducible exact grew_refl _ | with_reducible assumption | with_reducible refine grew_split ?_ | with_reducible refine grew_mk ?_ | with_reducible refine grew_plus ?_ | with_reducible refine grew_alloc ?_ | with_reducible refine grew_drew ?_ | (with_reducible refine grew_set ?_ (by first | exact Nat.le_refl _ | omega | (simp [go_sem]; done) | (simp [go_sem]; omega)))))))) | exact calm_add (i_Itoa _ _ (by omega) (by omega) (HT.out.grew (by (repeat (first | with_reducible exact grew_refl _ | with_reducible assumption | with_reducible refine grew_split ?_ | with_reducible refine grew_mk ?_ | with_reducible refine grew_plus ?_ | with_reducible refine grew_alloc ?_ | with_reducible refine grew_drew ?_ | (with_reducible refine grew_set ?_ (by first | exact Nat.le_refl _ | omega | (simp [go_sem]; done) | (simp [go_sem]; omega))))))))))); clear hK K))))); all_goals (refine wpQuiet_nil ?_; intro _ hw'; obtain ⟨gq, hw''⟩ := hw'; subst hw''))
    go_wp2_with fail
    go_loopw [5, 30] (fun s i wr => ∃ k : Nat, k ≤ ph.length ∧ s = .string (lightTo ⟨id, nm, x, y, rg, ph⟩ k) ∧ i = .int .i64 k ∧ (∃ g, wr = plus w g)) (fun _ i _ => ph.length - (intOf i).toNat)
    case atStart => exact ⟨0, Nat.zero_le _, by simp [lightTo, headL, bsL, ByteArray.append_assoc], rfl, by (repeat (first | with_reducible exact grew_refl _ | with_reducible assumption | with_reducible refine grew_split ?_ | with_reducible refine grew_mk ?_ | with_reducible refine grew_plus ?_ | with_reducible refine grew_alloc ?_ | with_reducible refine grew_drew ?_ | (with_reducible refine grew_set ?_ (by first | exact Nat.le_refl _ | omega | (simp [go_sem]; done) | (simp [go_sem]; omega)))))⟩
    case round =>
      obtain ⟨k, hk, rfl, rfl, g, rfl⟩ := hrel
      have hz := HZ.out k hk
      by_cases hlt : k < ph.length
      · obtain ⟨b, off, rfl, hb, hc⟩ := HV.out.ph.at_ hlt
        obtain ⟨hc0, hc1⟩ := cells2 hc hlt
        obtain ⟨t1, t2⟩ := HK.out.2.2 k hlt
        have z3 := num_size ph[k].tenths (by omega) (by omega)
        have HS' := hid (HS.out k hlt)
        clear hc
        generalize lightTo ⟨id, nm, x, y, rg, ph⟩ k = s0 at *
        go_wp2_with (go_at_call 31; refine (i_Itoa _ _ (by omega) (by omega) (HT.out.grew (by (repeat (first | with_reducible exact grew_refl _ | with_reducible assumption | with_reducible refine grew_split ?_ | with_reducible refine grew_mk ?_ | with_reducible refine grew_plus ?_ | with_reducible refine grew_alloc ?_ | with_reducible refine grew_drew ?_ | (with_reducible refine grew_set ?_ (by first | exact Nat.le_refl _ | omega | (simp [go_sem]; done) | (simp [go_sem]; omega)))))))).mono ?_; (rintro e w' ⟨rfl, gx, rfl⟩))
        all_goals
          go_roundw
          case rel => exact ⟨k + 1, by omega, by rw [HS'.out]; simp [phT, bsL, ByteArray.append_assoc, *], by go_num, by (repeat (first | with_reducible exact grew_refl _ | with_reducible assumption | with_reducible refine grew_split ?_ | with_reducible refine grew_mk ?_ | with_reducible refine grew_plus ?_ | with_reducible refine grew_alloc ?_ | with_reducible refine grew_drew ?_ | (with_reducible refine grew_set ?_ (by first | exact Nat.le_refl _ | omega | (simp [go_sem]; done) | (simp [go_sem]; omega)))))⟩
          case measure => simp [intOf]; omega
      · obtain rfl : k = ph.length := by omega
        go_wp2_with fail
        go_ret2
        exact ⟨ret_strb (by rw [HF.out]) (by rw [HF.out]), by (repeat (first | with_reducible exact grew_refl _ | with_reducible assumption | with_reducible refine grew_split ?_ | with_reducible refine grew_mk ?_ | with_reducible refine grew_plus ?_ | with_reducible refine grew_alloc ?_ | with_reducible refine grew_drew ?_ | (with_reducible refine grew_set ?_ (by first | exact Nat.le_refl _ | omega | (simp [go_sem]; done) | (simp [go_sem]; omega)))))⟩
set_option maxHeartbeats 2000000 in
theorem s_LightText (v : LightV) (w : World) (hv : v.At w) :
    Calls Tryd.prog 15 #[v.val] w fun e w' => e = .returned (.tuple #[.string (lightF v.core).1, .bool (lightF v.core).2]) ∧ ∃ g, w' = plus w g := by
  have HV := hid hv
  clear hv
  cases ho : v.core.ok
  · have HF : Hid (lightF v.core = (ByteArray.empty, false)) := hid (by simp [lightF, ho])
    go_enter Tryd.func15, Tryd.ntmps15
    go_wp2_with (go_at_call 20; refine (s_l24One v _ ho _ (HV.out.alloc _)).mono ?_; (rintro e w' ⟨rfl, gx, rfl⟩))
    go_ret2
    exact ⟨ret_strb (by rw [HF.out]; rfl) (by rw [HF.out]), by (repeat (first | with_reducible exact grew_refl _ | with_reducible assumption | with_reducible refine grew_split ?_ | with_reducible refine grew_mk ?_ | with_reducible refine grew_plus ?_ | with_reducible refine grew_alloc ?_ | with_reducible refine grew_drew ?_ | (with_reducible refine grew_set ?_ (by first | exact Nat.le_refl _ | omega | (simp [go_sem]; done) | (simp [go_sem]; omega)))))⟩
  · have HF : Hid (lightF v.core = (lightTo v.core v.core.ph.length, true)) := hid (by simp [lightF, ho])
    obtain ⟨⟨id, nm, x, y, rg, ph⟩, A, c⟩ := v
    have HZ := hid (fun k (hk : k ≤ ph.length) => lightTo_size ho k hk)
    have HS := hid (fun k (hk : k < ph.length) => lightTo_succ (v := ⟨id, nm, x, y, rg, ph⟩) hk)
    have z0 : nm.size ≤ 10 := by
      have h := ho
      simp only [LightC.ok, Bool.and_eq_true] at h
      exact wordB_size h.1.1.1.1.1.2
    have HK := hid (LightC.phok ho)
    have hl1 := HK.out.1
    have hl2 := HK.out.2.1
    obtain ⟨p1, p2⟩ := HK.out.per
    simp only at hl1 hl2 p1 p2 HF ⊢
    have z1 := num_size ((per ph : Int) / 10) (by omega) (by omega)
    have z2 := num_size ((per ph : Int) % 10) (by omega) (by omega)
    go_enter Tryd.func15, Tryd.ntmps15
    go_wp2_with fail
    refine (s_l24One _ _ ho _ (HV.out.alloc _)).mono ?_
    (rintro e w' ⟨rfl, gx, rfl⟩)
    go_wp2_with fail
    refine (s_l24Period _ HK.out _ (HV.out.grew (by (repeat (first | with_reducible exact grew_refl _ | with_reducible assumption | with_reducible refine grew_split ?_ | with_reducible refine grew_mk ?_ | with_reducible refine grew_plus ?_ | with_reducible refine grew_alloc ?_ | with_reducible refine grew_drew ?_ | (with_reducible refine grew_set ?_ (by first | exact Nat.le_refl _ | omega | (simp [go_sem]; done) | (simp [go_sem]; omega)))))))).mono ?_
    (rintro e w' ⟨rfl, gx, rfl⟩)
    go_wp2_with fail
    (refine wp_region_calm (by kernel_rfl) (by kernel_rfl) ?_; (repeat' (first | go_big_quiet_step (((go_at_call 32; first | exact calm_of (s_l1Num _ _ (by omega) (by omega)) | exact calm_add (s_l1Num _ _ (by omega) (by omega))))) | (refine wpQuiet_step (fun K hK => ?_); go_simp; go_ite <;> go_simp <;> (first | (refine hK _ ?_; clear hK K) | (apply Exists.intro; refine ⟨fun _ => ?_, hK _ ?_⟩; (((go_at_call 32; first | exact calm_of (s_l1Num _ _ (by omega) (by omega)) | exact calm_add (s_l1Num _ _ (by omega) (by omega))))); clear hK K))))); all_goals (refine wpQuiet_nil ?_; intro _ hw'; obtain ⟨gq, hw''⟩ := hw'; subst hw''))
    go_wp2_with fail
    go_loopw [6, 7] (fun s i wr => ∃ k : Nat, k ≤ ph.length ∧ s = .string (lightTo ⟨id, nm, x, y, rg, ph⟩ k) ∧ i = .int .i64 k ∧ (∃ g, wr = plus (w.alloc (.cells #[.int .i64 id, .string nm, .int .i64 x, .int .i64 y, .int .i64 rg, .slice A ph.length c] 28)) g)) (fun _ i _ => ph.length - (intOf i).toNat)
    case atStart => exact ⟨0, Nat.zero_le _, by simp [lightTo, headL, bsL, ByteArray.append_assoc], rfl, by (repeat (first | with_reducible exact grew_refl _ | with_reducible assumption | with_reducible refine grew_split ?_ | with_reducible refine grew_mk ?_ | with_reducible refine grew_plus ?_ | with_reducible refine grew_alloc ?_ | with_reducible refine grew_drew ?_ | (with_reducible refine grew_set ?_ (by first | exact Nat.le_refl _ | omega | (simp [go_sem]; done) | (simp [go_sem]; omega)))))⟩
    case round =>
      obtain ⟨k, hk, rfl, rfl, g, rfl⟩ := hrel
      have hz := HZ.out k hk
      by_cases hlt : k < ph.length
      · obtain ⟨b, off, rfl, hb, hc⟩ := HV.out.ph.at_ hlt
        obtain ⟨hc0, hc1⟩ := cells2 hc hlt
        obtain ⟨t1, t2⟩ := HK.out.2.2 k hlt
        have z3 := num_size ph[k].tenths (by omega) (by omega)
        have HS' := hid (HS.out k hlt)
        clear hc
        generalize lightTo ⟨id, nm, x, y, rg, ph⟩ k = s0 at *
        go_wp2_with (go_at_call 32; refine (s_l1Num _ _ (by omega) (by omega)).mono ?_; (rintro e w' ⟨rfl, gx, rfl⟩))
        all_goals
          go_roundw
          case rel => exact ⟨k + 1, by omega, by rw [HS'.out]; simp [phT, bsL, ByteArray.append_assoc, *], by go_num, by (repeat (first | with_reducible exact grew_refl _ | with_reducible assumption | with_reducible refine grew_split ?_ | with_reducible refine grew_mk ?_ | with_reducible refine grew_plus ?_ | with_reducible refine grew_alloc ?_ | with_reducible refine grew_drew ?_ | (with_reducible refine grew_set ?_ (by first | exact Nat.le_refl _ | omega | (simp [go_sem]; done) | (simp [go_sem]; omega)))))⟩
          case measure => simp [intOf]; omega
      · obtain rfl : k = ph.length := by omega
        go_wp2_with fail
        go_ret2
        exact ⟨ret_strb (by rw [HF.out]) (by rw [HF.out]), by (repeat (first | with_reducible exact grew_refl _ | with_reducible assumption | with_reducible refine grew_split ?_ | with_reducible refine grew_mk ?_ | with_reducible refine grew_plus ?_ | with_reducible refine grew_alloc ?_ | with_reducible refine grew_drew ?_ | (with_reducible refine grew_set ?_ (by first | exact Nat.le_refl _ | omega | (simp [go_sem]; done) | (simp [go_sem]; omega)))))⟩
end Go.Proofs.YtjlaidjogladaaaDoor
