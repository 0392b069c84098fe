/- What the functions on logs return, in both packages; the laws' conversions. -/
import Derived.Test.YtfnbbmhhilffeaaDoorG9
namespace Go.Proofs.YtfnbbmhhilffeaaDoor
open Go.RowKit

def zLog : LogR := ⟨⟨#[]⟩, ⟨#[]⟩, 0⟩
theorem LogR.ext' {a b : LogR} (h1 : a.d = b.d) (h2 : a.p = b.p) (h3 : a.n = b.n) : a = b := by cases a; cases b; simp_all
set_option maxHeartbeats 400000 in
theorem s_IsValidLog (l : LogR) (o : Bool) (ho : l.ok = o) (w : World) (h1 : l.d.size ≤ 2097152) (h2 : l.p.size ≤ 2097152) :
    Calls Tryd.prog 11 #[l.val] w fun e w' => e = .returned (.bool o) ∧ ∃ g, w' = plus w g := by
  go_enter Tryd.func11, Tryd.ntmps11
  go_wp2_with fail
  refine (s_l27Log l _ ho _ h1 h2).mono ?_
  (rintro e w' ⟨rfl, gx, rfl⟩)
  go_wp2_with fail
  go_ret
  exact ⟨rfl, by (repeat (first | with_reducible exact grew_refl _ | with_reducible assumption | with_reducible refine grew_split ?_ | with_reducible refine grew_mk ?_ | with_reducible refine grew_plus ?_ | with_reducible refine grew_alloc ?_ | with_reducible refine grew_drew ?_ | (with_reducible refine grew_set ?_ (by first | exact Nat.le_refl _ | omega | (simp [go_sem]; done) | (simp [go_sem]; omega)))))⟩
/-- The encoding of a record, if it has one. -/
def encF (k : Int) (e : RecR) : ByteArray × Bool := if inB k 0 59 && e.ok then (lineV k.toNat e, true) else (⟨#[]⟩, false)
set_option maxHeartbeats 1000000 in
theorem i_EncodeRecord (k : Int) (e : RecR) (w : World) (h1 : e.c.size ≤ maxLen) (h2 : e.r.size ≤ maxLen) (hE : Env w) :
    Calls Tryd.prog 18 #[.int .i64 k, e.val] w fun e' w' => e' = .returned (.tuple #[.string (encF k e).1, .bool (encF k e).2]) ∧ ∃ g, w' = plus w g := by
  have _HE := hid hE
  obtain ⟨c, r⟩ := e
  simp only at h1 h2
  clear hE
  cases hk : inB k 0 59
  · have HF : Hid (encF k ⟨c, r⟩ = (⟨#[]⟩, false)) := hid (by simp [encF, hk])
    go_enter Tryd.func18, Tryd.ntmps18
    go_wp2_with (go_at_call 35; refine (i_inside _ _ _ _ hk _).mono ?_; (rintro e w' ⟨rfl, rfl⟩))
    go_ret2
    exact ⟨ret_strb (by rw [HF.out]) (by rw [HF.out]), by (repeat (first | with_reducible exact grew_refl _ | with_reducible assumption | with_reducible refine grew_split ?_ | with_reducible refine grew_mk ?_ | with_reducible refine grew_plus ?_ | with_reducible refine grew_alloc ?_ | with_reducible refine grew_drew ?_ | (with_reducible refine grew_set ?_ (by first | exact Nat.le_refl _ | omega | (simp [go_sem]; done) | (simp [go_sem]; omega)))))⟩
  cases ho : RecR.ok ⟨c, r⟩
  · have HF : Hid (encF k ⟨c, r⟩ = (⟨#[]⟩, false)) := hid (by simp [encF, ho])
    go_enter Tryd.func18, Tryd.ntmps18
    go_wp2_with fail
    refine (i_inside _ _ _ _ hk _).mono ?_
    (rintro e w' ⟨rfl, rfl⟩)
    go_wp2_with fail
    refine (i_IsValidRecord c r _ ho _ h1 h2).mono ?_
    (rintro e w' ⟨rfl, gx, rfl⟩)
    go_wp2_with fail
    go_ret2
    exact ⟨ret_strb (by rw [HF.out]) (by rw [HF.out]), by (repeat (first | with_reducible exact grew_refl _ | with_reducible assumption | with_reducible refine grew_split ?_ | with_reducible refine grew_mk ?_ | with_reducible refine grew_plus ?_ | with_reducible refine grew_alloc ?_ | with_reducible refine grew_drew ?_ | (with_reducible refine grew_set ?_ (by first | exact Nat.le_refl _ | omega | (simp [go_sem]; done) | (simp [go_sem]; omega)))))⟩
  · have hb : 0 ≤ k ∧ k ≤ 59 := by simpa [inB] using hk
    obtain ⟨n, rfl⟩ := Int.eq_ofNat_of_zero_le hb.1
    have HF : Hid (encF (n : Int) ⟨c, r⟩ = (lineV n ⟨c, r⟩, true)) := hid (by simp [encF, ho, hk])
    obtain ⟨p1, p2, _, _, _, p3⟩ := RecR.parts ho
    simp only at p1 p2 p3
    go_enter Tryd.func18, Tryd.ntmps18
    go_wp2_with fail
    refine (i_inside _ _ _ _ hk _).mono ?_
    (rintro e w' ⟨rfl, rfl⟩)
    go_wp2_with fail
    refine (i_IsValidRecord c r _ ho _ h1 h2).mono ?_
    (rintro e w' ⟨rfl, gx, rfl⟩)
    go_wp2_with fail
    refine (i_encodeRecord n ⟨c, r⟩ _ (by omega) ho (_HE.out.grew (by (repeat (first | with_reducible exact grew_refl _ | with_reducible assumption | with_reducible refine grew_split ?_ | with_reducible refine grew_mk ?_ | with_reducible refine grew_plus ?_ | with_reducible refine grew_alloc ?_ | with_reducible refine grew_drew ?_ | (with_reducible refine grew_set ?_ (by first | exact Nat.le_refl _ | omega | (simp [go_sem]; done) | (simp [go_sem]; omega)))))))).mono ?_
    (rintro e w' ⟨rfl, gx, rfl⟩)
    go_wp2_with fail
    go_ret2
    exact ⟨ret_strb (by rw [HF.out]) (by rw [HF.out]), by (repeat (first | with_reducible exact grew_refl _ | with_reducible assumption | with_reducible refine grew_split ?_ | with_reducible refine grew_mk ?_ | with_reducible refine grew_plus ?_ | with_reducible refine grew_alloc ?_ | with_reducible refine grew_drew ?_ | (with_reducible refine grew_set ?_ (by first | exact Nat.le_refl _ | omega | (simp [go_sem]; done) | (simp [go_sem]; omega)))))⟩
set_option maxHeartbeats 1000000 in
theorem s_EncodeRecord (k : Int) (e : RecR) (w : World) (h1 : e.c.size ≤ maxLen) (h2 : e.r.size ≤ maxLen) (hE : Env w) :
    Calls Tryd.prog 19 #[.int .i64 k, e.val] w fun e' w' => e' = .returned (.tuple #[.string (encF k e).1, .bool (encF k e).2]) ∧ ∃ g, w' = plus w g := by
  have _HE := hid hE
  obtain ⟨c, r⟩ := e
  simp only at h1 h2
  clear hE
  cases hk : inB k 0 59
  · have HF : Hid (encF k ⟨c, r⟩ = (⟨#[]⟩, false)) := hid (by simp [encF, hk])
    go_enter Tryd.func19, Tryd.ntmps19
    go_wp2_with (go_at_call 39; refine (s_l1In _ _ _ _ hk _).mono ?_; (rintro e w' ⟨rfl, rfl⟩))
    go_ret2
    exact ⟨ret_strb (by rw [HF.out]) (by rw [HF.out]), by (repeat (first | with_reducible exact grew_refl _ | with_reducible assumption | with_reducible refine grew_split ?_ | with_reducible refine grew_mk ?_ | with_reducible refine grew_plus ?_ | with_reducible refine grew_alloc ?_ | with_reducible refine grew_drew ?_ | (with_reducible refine grew_set ?_ (by first | exact Nat.le_refl _ | omega | (simp [go_sem]; done) | (simp [go_sem]; omega)))))⟩
  cases ho : RecR.ok ⟨c, r⟩
  · have HF : Hid (encF k ⟨c, r⟩ = (⟨#[]⟩, false)) := hid (by simp [encF, ho])
    go_enter Tryd.func19, Tryd.ntmps19
    go_wp2_with fail
    refine (s_l1In _ _ _ _ hk _).mono ?_
    (rintro e w' ⟨rfl, rfl⟩)
    go_wp2_with fail
    refine (s_l27Good c r _ ho _ h1 h2).mono ?_
    (rintro e w' ⟨rfl, gx, rfl⟩)
    go_wp2_with fail
    go_ret2
    exact ⟨ret_strb (by rw [HF.out]) (by rw [HF.out]), by (repeat (first | with_reducible exact grew_refl _ | with_reducible assumption | with_reducible refine grew_split ?_ | with_reducible refine grew_mk ?_ | with_reducible refine grew_plus ?_ | with_reducible refine grew_alloc ?_ | with_reducible refine grew_drew ?_ | (with_reducible refine grew_set ?_ (by first | exact Nat.le_refl _ | omega | (simp [go_sem]; done) | (simp [go_sem]; omega)))))⟩
  · have hb : 0 ≤ k ∧ k ≤ 59 := by simpa [inB] using hk
    obtain ⟨n, rfl⟩ := Int.eq_ofNat_of_zero_le hb.1
    have HF : Hid (encF (n : Int) ⟨c, r⟩ = (lineV n ⟨c, r⟩, true)) := hid (by simp [encF, ho, hk])
    obtain ⟨p1, p2, _, _, _, p3⟩ := RecR.parts ho
    simp only at p1 p2 p3
    go_enter Tryd.func19, Tryd.ntmps19
    go_wp2_with fail
    refine (s_l1In _ _ _ _ hk _).mono ?_
    (rintro e w' ⟨rfl, rfl⟩)
    go_wp2_with fail
    refine (s_l27Good c r _ ho _ h1 h2).mono ?_
    (rintro e w' ⟨rfl, gx, rfl⟩)
    go_wp2_with fail
    refine (s_l27Line n ⟨c, r⟩ _ (by omega) (by simp only; omega) (by simp only; omega)).mono ?_
    (rintro e w' ⟨rfl, gx, rfl⟩)
    go_wp2_with fail
    go_ret2
    exact ⟨ret_strb (by rw [HF.out]) (by rw [HF.out]), by (repeat (first | with_reducible exact grew_refl _ | with_reducible assumption | with_reducible refine grew_split ?_ | with_reducible refine grew_mk ?_ | with_reducible refine grew_plus ?_ | with_reducible refine grew_alloc ?_ | with_reducible refine grew_drew ?_ | (with_reducible refine grew_set ?_ (by first | exact Nat.le_refl _ | omega | (simp [go_sem]; done) | (simp [go_sem]; omega)))))⟩
/-- What is recovered of a text. -/
def recovF (s : ByteArray) : LogR × Int × Bool := if 30000 < s.size then (zLog, 0, false) else (⟨s.extract 0 (endOf (opensF (bl s))), ⟨#[]⟩, (opensF (bl s)).length⟩, endOf (opensF (bl s)), true)
set_option maxHeartbeats 1000000 in
theorem s_RecoverLog (s : ByteArray) (w : World) (hs : s.size ≤ 4194304) (hE : Env w) :
    Calls Tryd.prog 21 #[.string s] w fun e' w' => e' = .returned (.tuple #[(recovF s).1.val, .int .i64 (recovF s).2.1, .bool (recovF s).2.2]) ∧ ∃ g, w' = plus w g := by
  have _HE := hid hE
  clear hE
  by_cases hbig : 30000 < s.size
  · have HF : Hid (recovF s = (zLog, 0, false)) := hid (by simp [recovF, hbig])
    have hb : (30000 : Int) < (s.size : Int) := by omega
    go_enter Tryd.func21, Tryd.ntmps21
    go_wp2_with fail
    refine bodyPost_ret (v := .tuple #[zLog.val, .int .i64 0, .bool false]) (by simp [results, Tryd.results21, go_sem, zLog]) rfl ?_
    rw [HF.out]
    exact ⟨rfl, by (repeat (first | with_reducible exact grew_refl _ | with_reducible assumption | with_reducible refine grew_split ?_ | with_reducible refine grew_mk ?_ | with_reducible refine grew_plus ?_ | with_reducible refine grew_alloc ?_ | with_reducible refine grew_drew ?_ | (with_reducible refine grew_set ?_ (by first | exact Nat.le_refl _ | omega | (simp [go_sem]; done) | (simp [go_sem]; omega)))))⟩
  · obtain ⟨L, hL⟩ : ∃ L, L = opensF (bl s) := ⟨_, rfl⟩
    have HF : Hid (recovF s = (⟨s.extract 0 (endOf L), ⟨#[]⟩, L.length⟩, (endOf L : Int), true)) := hid (by simp [recovF, hbig, hL])
    have he := (opensF_end (bl s)).1
    have hb : (s.size : Int) ≤ 30000 := by omega
    have HR := hid (fun W => s_l27Open s W hs)
    rw [← hL, bl_len] at he
    rw [← hL] at HR
    clear hL
    go_enter Tryd.func21, Tryd.ntmps21
    go_wp2_with fail
    (refine (HR.out _).mono ?_; rintro e w' ⟨⟨A, c, rfl, -⟩, g1, rfl⟩)
    go_wp2_with fail
    refine bodyPost_ret (v := .tuple #[LogR.val ⟨s.extract 0 (endOf L), ⟨#[]⟩, L.length⟩, .int .i64 (endOf L), .bool true]) (by simp [results, Tryd.results21, go_sem]) rfl ?_
    rw [HF.out]
    exact ⟨rfl, by (repeat (first | with_reducible exact grew_refl _ | with_reducible assumption | with_reducible refine grew_split ?_ | with_reducible refine grew_mk ?_ | with_reducible refine grew_plus ?_ | with_reducible refine grew_alloc ?_ | with_reducible refine grew_drew ?_ | (with_reducible refine grew_set ?_ (by first | exact Nat.le_refl _ | omega | (simp [go_sem]; done) | (simp [go_sem]; omega)))))⟩
set_option maxHeartbeats 1000000 in
theorem i_RecoverLog (s : ByteArray) (w : World) (hs : s.size ≤ 4194304) (hE : Env w) :
    Calls Tryd.prog 15 #[.string s] w fun e' w' => e' = .returned (.tuple #[(recovF s).1.val, .int .i64 (recovF s).2.1, .bool (recovF s).2.2]) ∧ ∃ g, w' = plus w g := by
  have _HE := hid hE
  clear hE
  by_cases hbig : 30000 < s.size
  · have HF : Hid (recovF s = (zLog, 0, false)) := hid (by simp [recovF, hbig])
    have hb : (30000 : Int) < (s.size : Int) := by omega
    go_enter Tryd.func15, Tryd.ntmps15
    go_wp2_with fail
    refine bodyPost_ret (v := .tuple #[zLog.val, .int .i64 0, .bool false]) (by simp [results, Tryd.results15, go_sem, zLog]) rfl ?_
    rw [HF.out]
    exact ⟨rfl, by (repeat (first | with_reducible exact grew_refl _ | with_reducible assumption | with_reducible refine grew_split ?_ | with_reducible refine grew_mk ?_ | with_reducible refine grew_plus ?_ | with_reducible refine grew_alloc ?_ | with_reducible refine grew_drew ?_ | (with_reducible refine grew_set ?_ (by first | exact Nat.le_refl _ | omega | (simp [go_sem]; done) | (simp [go_sem]; omega)))))⟩
  · obtain ⟨L, hL⟩ : ∃ L, L = opensF (bl s) := ⟨_, rfl⟩
    have HF : Hid (recovF s = (⟨s.extract 0 (endOf L), ⟨#[]⟩, L.length⟩, (endOf L : Int), true)) := hid (by simp [recovF, hbig, hL])
    have he := (opensF_end (bl s)).1
    have hb : (s.size : Int) ≤ 30000 := by omega
    have HR := hid (fun W => i_readRecords s W hs)
    rw [← hL, bl_len] at he
    rw [← hL] at HR
    clear hL
    go_enter Tryd.func15, Tryd.ntmps15
    go_wp2_with fail
    (refine (HR.out _ (_HE.out.grew (by (repeat (first | with_reducible exact grew_refl _ | with_reducible assumption | with_reducible refine grew_split ?_ | with_reducible refine grew_mk ?_ | with_reducible refine grew_plus ?_ | with_reducible refine grew_alloc ?_ | with_reducible refine grew_drew ?_ | (with_reducible refine grew_set ?_ (by first | exact Nat.le_refl _ | omega | (simp [go_sem]; done) | (simp [go_sem]; omega)))))))).mono ?_; rintro e w' ⟨⟨A, c, A', c', rfl, -, hO⟩, g1, rfl⟩; have hA := hO.sl intRow_len; have EL := hid (endsL_len L L.length); obtain ⟨b, off, rfl, hlt, hc⟩ := hA.at_ (k := L.length) (by rw [EL.out]; omega); have hcl := icells hc (k := L.length) (by rw [EL.out]; omega); rw [endsL_get, endAt_len] at hcl; clear hc hA hO)
    go_wp2_with fail
    refine bodyPost_ret (v := .tuple #[LogR.val ⟨s.extract 0 (endOf L), ⟨#[]⟩, L.length⟩, .int .i64 (endOf L), .bool true]) (by simp [results, Tryd.results15, go_sem]) rfl ?_
    rw [HF.out]
    exact ⟨rfl, by (repeat (first | with_reducible exact grew_refl _ | with_reducible assumption | with_reducible refine grew_split ?_ | with_reducible refine grew_mk ?_ | with_reducible refine grew_plus ?_ | with_reducible refine grew_alloc ?_ | with_reducible refine grew_drew ?_ | (with_reducible refine grew_set ?_ (by first | exact Nat.le_refl _ | omega | (simp [go_sem]; done) | (simp [go_sem]; omega)))))⟩
/-- A log with nothing pending. -/
def syncF (l : LogR) : LogR × Bool := if l.ok then (⟨l.d ++ l.p, ⟨#[]⟩, l.n⟩, true) else (zLog, false)
set_option maxHeartbeats 1000000 in
theorem s_SyncLog (l : LogR) (w : World) (h1 : l.d.size ≤ 2097152) (h2 : l.p.size ≤ 2097152) (hE : Env w) :
    Calls Tryd.prog 53 #[l.val] w fun e' w' => e' = .returned (.tuple #[(syncF l).1.val, .bool (syncF l).2]) ∧ ∃ g, w' = plus w g := by
  have _HE := hid hE
  clear hE
  cases ho : l.ok
  · have HF : Hid (syncF l = (zLog, false)) := hid (by simp [syncF, ho])
    have HO := hid ho
    clear ho
    go_enter Tryd.func53, Tryd.ntmps53
    go_wp2_with fail
    refine (s_l27Log l _ HO.out _ h1 h2).mono ?_
    (rintro e w' ⟨rfl, gx, rfl⟩)
    go_wp2_with fail
    refine bodyPost_ret (v := .tuple #[zLog.val, .bool false]) (by simp [results, Tryd.results53, go_sem, zLog]) rfl ?_
    rw [HF.out]
    exact ⟨rfl, by (repeat (first | with_reducible exact grew_refl _ | with_reducible assumption | with_reducible refine grew_split ?_ | with_reducible refine grew_mk ?_ | with_reducible refine grew_plus ?_ | with_reducible refine grew_alloc ?_ | with_reducible refine grew_drew ?_ | (with_reducible refine grew_set ?_ (by first | exact Nat.le_refl _ | omega | (simp [go_sem]; done) | (simp [go_sem]; omega)))))⟩
  · have HF : Hid (syncF l = (⟨l.d ++ l.p, ⟨#[]⟩, l.n⟩, true)) := hid (by simp [syncF, ho])
    have HO := hid ho
    clear ho
    go_enter Tryd.func53, Tryd.ntmps53
    go_wp2_with fail
    refine (s_l27Log l _ HO.out _ h1 h2).mono ?_
    (rintro e w' ⟨rfl, gx, rfl⟩)
    go_wp2_with fail
    refine bodyPost_ret (v := .tuple #[LogR.val ⟨l.d ++ l.p, ⟨#[]⟩, l.n⟩, .bool true]) (by simp [results, Tryd.results53, go_sem]) rfl ?_
    rw [HF.out]
    exact ⟨rfl, by (repeat (first | with_reducible exact grew_refl _ | with_reducible assumption | with_reducible refine grew_split ?_ | with_reducible refine grew_mk ?_ | with_reducible refine grew_plus ?_ | with_reducible refine grew_alloc ?_ | with_reducible refine grew_drew ?_ | (with_reducible refine grew_set ?_ (by first | exact Nat.le_refl _ | omega | (simp [go_sem]; done) | (simp [go_sem]; omega)))))⟩
set_option maxHeartbeats 1000000 in
theorem i_SyncLog (l : LogR) (w : World) (h1 : l.d.size ≤ 2097152) (h2 : l.p.size ≤ 2097152) (hE : Env w) :
    Calls Tryd.prog 16 #[l.val] w fun e' w' => e' = .returned (.tuple #[(syncF l).1.val, .bool (syncF l).2]) ∧ ∃ g, w' = plus w g := by
  have _HE := hid hE
  clear hE
  cases ho : l.ok
  · have HF : Hid (syncF l = (zLog, false)) := hid (by simp [syncF, ho])
    have HO := hid ho
    clear ho
    go_enter Tryd.func16, Tryd.ntmps16
    go_wp2_with fail
    refine (i_IsValidLog l _ HO.out _ h1 h2 (_HE.out.grew (by (repeat (first | with_reducible exact grew_refl _ | with_reducible assumption | with_reducible refine grew_split ?_ | with_reducible refine grew_mk ?_ | with_reducible refine grew_plus ?_ | with_reducible refine grew_alloc ?_ | with_reducible refine grew_drew ?_ | (with_reducible refine grew_set ?_ (by first | exact Nat.le_refl _ | omega | (simp [go_sem]; done) | (simp [go_sem]; omega)))))))).mono ?_
    (rintro e w' ⟨rfl, gx, rfl⟩)
    go_wp2_with fail
    refine bodyPost_ret (v := .tuple #[zLog.val, .bool false]) (by simp [results, Tryd.results16, go_sem, zLog]) rfl ?_
    rw [HF.out]
    exact ⟨rfl, by (repeat (first | with_reducible exact grew_refl _ | with_reducible assumption | with_reducible refine grew_split ?_ | with_reducible refine grew_mk ?_ | with_reducible refine grew_plus ?_ | with_reducible refine grew_alloc ?_ | with_reducible refine grew_drew ?_ | (with_reducible refine grew_set ?_ (by first | exact Nat.le_refl _ | omega | (simp [go_sem]; done) | (simp [go_sem]; omega)))))⟩
  · have HF : Hid (syncF l = (⟨l.d ++ l.p, ⟨#[]⟩, l.n⟩, true)) := hid (by simp [syncF, ho])
    have HO := hid ho
    clear ho
    go_enter Tryd.func16, Tryd.ntmps16
    go_wp2_with fail
    refine (i_IsValidLog l _ HO.out _ h1 h2 (_HE.out.grew (by (repeat (first | with_reducible exact grew_refl _ | with_reducible assumption | with_reducible refine grew_split ?_ | with_reducible refine grew_mk ?_ | with_reducible refine grew_plus ?_ | with_reducible refine grew_alloc ?_ | with_reducible refine grew_drew ?_ | (with_reducible refine grew_set ?_ (by first | exact Nat.le_refl _ | omega | (simp [go_sem]; done) | (simp [go_sem]; omega)))))))).mono ?_
    (rintro e w' ⟨rfl, gx, rfl⟩)
    go_wp2_with fail
    refine bodyPost_ret (v := .tuple #[LogR.val ⟨l.d ++ l.p, ⟨#[]⟩, l.n⟩, .bool true]) (by simp [results, Tryd.results16, go_sem]) rfl ?_
    rw [HF.out]
    exact ⟨rfl, by (repeat (first | with_reducible exact grew_refl _ | with_reducible assumption | with_reducible refine grew_split ?_ | with_reducible refine grew_mk ?_ | with_reducible refine grew_plus ?_ | with_reducible refine grew_alloc ?_ | with_reducible refine grew_drew ?_ | (with_reducible refine grew_set ?_ (by first | exact Nat.le_refl _ | omega | (simp [go_sem]; done) | (simp [go_sem]; omega)))))⟩
end Go.Proofs.YtfnbbmhhilffeaaDoor
