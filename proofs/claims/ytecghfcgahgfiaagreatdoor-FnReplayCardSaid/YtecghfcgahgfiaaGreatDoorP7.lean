import Derived.Test.YtecghfcgahgfiaaGreatDoorP5
/- Reading one record, in both packages. -/
namespace Go.Proofs.YtecghfcgahgfiaaGreatDoor
open Go.RowKit

def noRec : RecR := ⟨⟨#[]⟩, ⟨#[]⟩⟩
/-- What reading a record off the head of a text returns. -/
def headV (s : Bytes) (k : Nat) : RecR × Int × Bool := match headB s k with
  | none => (noRec, 0, false)
  | some (e, n) => (e, n, true)
theorem head_no_line {s : Bytes} {k : Nat} (h : (cutB 10 s).2.2 = false) : headV s k = (noRec, 0, false) := by unfold headV; rw [headB_miss h]
theorem head_full {s : Bytes} {k : Nat} (h : 60 ≤ k) : headV s k = (noRec, 0, false) := by unfold headV; rw [headB_full h]
theorem head_bad {s : Bytes} {k : Nat} (h : (fieldsB (cutB 10 s).1).ok = false) : headV s k = (noRec, 0, false) := by
  unfold headV headB recAt
  rw [h]; simp
theorem head_other {s : Bytes} {k : Nat} (h : (fieldsB (cutB 10 s).1).line k ≠ (cutB 10 s).1) : headV s k = (noRec, 0, false) := by
  unfold headV headB recAt
  simp [h]
theorem head_yes {s : Bytes} {k : Nat} (h0 : (cutB 10 s).2.2 = true) (h1 : k < 60) (h2 : (fieldsB (cutB 10 s).1).ok = true) (h : (fieldsB (cutB 10 s).1).line k = (cutB 10 s).1) : headV s k = (fieldsB (cutB 10 s).1, (((cutB 10 s).1.length + 1 : Nat) : Int), true) := by
  unfold headV headB recAt
  simp [h0, h1, h2, h]
theorem mk_size (l : Bytes) : (⟨l.toArray⟩ : ByteArray).size = l.length := List.size_toArray
abbrev mk (l : Bytes) : ByteArray := ⟨l.toArray⟩
theorem cutB_len2 (b : UInt8) (s : Bytes) : (cutB b s).2.1.length ≤ s.length := by
  cases h : (cutB b s).2.2
  · rw [cutB_miss b s h]; simp
  · have := congrArg List.length (cutB_found b s h)
    simp at this; omega
theorem i_CutT (s : ByteArray) (b : UInt8) (x y : ByteArray) (f : Bool) (hx : x = mk (cutB b (bl s)).1) (hy : y = mk (cutB b (bl s)).2.1) (hf : f = (cutB b (bl s)).2.2) (hs : s.size ≤ 4194304) (w : World) (hE : Env w) :
    Calls Tryz.prog 106 #[.string s, .string ⟨#[b]⟩] w fun e w' => e = .returned (.tuple #[.string x, .string y, .bool f]) ∧ ∃ g, w' = plus w g := by
  subst hx hy hf; exact i_Cut s b w hs hE
theorem str_eq (a b : ByteArray) : (a.toList == b.toList) = (bl a == bl b) := by rw [ByteArray.toList_eq, ByteArray.toList_eq]
set_option maxHeartbeats 2000000 in
theorem i_readRecord (s : ByteArray) (k : Nat) (p : RecR × Int × Bool) (hp : headV (bl s) k = p) (w : World) (hs : s.size ≤ 4194304) (hk : k ≤ 1000) (hE : Env w) :
    Calls Tryz.prog 83 #[.string s, .int .i64 k] w fun e' w' => e' = .returned (.tuple #[p.1.val, .int .i64 p.2.1, .bool p.2.2]) ∧ ∃ g, w' = plus w g := by
  have HE := hid hE
  have HP := hid hp
  have e0 := bl_len s
  obtain ⟨t1, ht1⟩ : ∃ t, t = mk (cutB 10 (bl s)).1 := ⟨_, rfl⟩
  obtain ⟨u1, hu1⟩ : ∃ t, t = mk (cutB 10 (bl s)).2.1 := ⟨_, rfl⟩
  obtain ⟨fd, hfd⟩ : ∃ f, f = (cutB 10 (bl s)).2.2 := ⟨_, rfl⟩
  obtain ⟨t2, ht2⟩ : ∃ t, t = mk (cutB 35 (bl t1)).1 := ⟨_, rfl⟩
  obtain ⟨u2, hu2⟩ : ∃ t, t = mk (cutB 35 (bl t1)).2.1 := ⟨_, rfl⟩
  obtain ⟨f2, hf2⟩ : ∃ f, f = (cutB 35 (bl t1)).2.2 := ⟨_, rfl⟩
  obtain ⟨u3, hu3⟩ : ∃ t, t = mk (cutB 32 (bl t2)).1 := ⟨_, rfl⟩
  obtain ⟨t3, ht3⟩ : ∃ t, t = mk (cutB 32 (bl t2)).2.1 := ⟨_, rfl⟩
  obtain ⟨f3, hf3⟩ : ∃ f, f = (cutB 32 (bl t2)).2.2 := ⟨_, rfl⟩
  obtain ⟨t4, ht4⟩ : ∃ t, t = mk (cutB 64 (bl t3)).1 := ⟨_, rfl⟩
  obtain ⟨t5, ht5⟩ : ∃ t, t = mk (cutB 64 (bl t3)).2.1 := ⟨_, rfl⟩
  obtain ⟨f4, hf4⟩ : ∃ f, f = (cutB 64 (bl t3)).2.2 := ⟨_, rfl⟩
  have s1 : t1.size ≤ 4194304 := by rw [ht1, mk_size]; have := cutB_len 10 (bl s); omega
  have s2 : t2.size ≤ 4194304 := by rw [ht2, mk_size]; have := cutB_len 35 (bl t1); have := bl_len t1; omega
  have s3 : t3.size ≤ 4194304 := by rw [ht3, mk_size]; have := cutB_len2 32 (bl t2); have := bl_len t2; omega
  have s4 : t4.size ≤ 4194304 := by rw [ht4, mk_size]; have := cutB_len 64 (bl t3); have := bl_len t3; omega
  have s5 : t5.size ≤ 4194304 := by rw [ht5, mk_size]; have := cutB_len2 64 (bl t3); have := bl_len t3; omega
  have hfl : fieldsB (bl t1) = ⟨t4, t5⟩ := by unfold fieldsB; rw [ht4, ht5, ht3, ht2]
  have hb1 : (cutB 10 (bl s)).1 = bl t1 := by rw [ht1]
  have C1 := hid (i_CutT s 10 t1 u1 fd ht1 hu1 hfd hs)
  have C2 := hid (i_CutT t1 35 t2 u2 f2 ht2 hu2 hf2 s1)
  have C3 := hid (i_CutT t2 32 u3 t3 f3 hu3 ht3 hf3 s2)
  have C4 := hid (i_CutT t3 64 t4 t5 f4 ht4 ht5 hf4 s3)
  have HFD := hid hfd
  have HFL := hid hfl
  have HB1 := hid hb1
  clear hE hp ht1 hu1 hfd ht2 hu2 hf2 hu3 ht3 hf3 ht4 ht5 hf4 hfl hb1
  go_enter Tryz.func83, Tryz.ntmps83
  go_wp2_with fail
  refine (C1.out _ (HE.out.grew (by (repeat (first | with_reducible exact grew_refl _ | with_reducible assumption | with_reducible refine grew_split ?_ | with_reducible refine grew_mk ?_ | with_reducible refine grew_plus ?_ | with_reducible refine grew_alloc ?_ | with_reducible refine grew_drew ?_ | (with_reducible refine grew_set ?_ (by first | exact Nat.le_refl _ | omega | (simp [go_sem]; done) | (simp [go_sem]; omega)))))))).mono ?_
  (rintro e w' ⟨rfl, gx, rfl⟩)
  go_wp2_with fail
  refine (C2.out _ (HE.out.grew (by (repeat (first | with_reducible exact grew_refl _ | with_reducible assumption | with_reducible refine grew_split ?_ | with_reducible refine grew_mk ?_ | with_reducible refine grew_plus ?_ | with_reducible refine grew_alloc ?_ | with_reducible refine grew_drew ?_ | (with_reducible refine grew_set ?_ (by first | exact Nat.le_refl _ | omega | (simp [go_sem]; done) | (simp [go_sem]; omega)))))))).mono ?_
  (rintro e w' ⟨rfl, gx, rfl⟩)
  go_wp2_with fail
  refine (C3.out _ (HE.out.grew (by (repeat (first | with_reducible exact grew_refl _ | with_reducible assumption | with_reducible refine grew_split ?_ | with_reducible refine grew_mk ?_ | with_reducible refine grew_plus ?_ | with_reducible refine grew_alloc ?_ | with_reducible refine grew_drew ?_ | (with_reducible refine grew_set ?_ (by first | exact Nat.le_refl _ | omega | (simp [go_sem]; done) | (simp [go_sem]; omega)))))))).mono ?_
  (rintro e w' ⟨rfl, gx, rfl⟩)
  go_wp2_with fail
  refine (C4.out _ (HE.out.grew (by (repeat (first | with_reducible exact grew_refl _ | with_reducible assumption | with_reducible refine grew_split ?_ | with_reducible refine grew_mk ?_ | with_reducible refine grew_plus ?_ | with_reducible refine grew_alloc ?_ | with_reducible refine grew_drew ?_ | (with_reducible refine grew_set ?_ (by first | exact Nat.le_refl _ | omega | (simp [go_sem]; done) | (simp [go_sem]; omega)))))))).mono ?_
  (rintro e w' ⟨rfl, gx, rfl⟩)
  cases fd
  · have HH := hid (head_no_line (k := k) HFD.out.symm)
    go_wp2_with fail
    (obtain rfl := HP.out.symm.trans HH.out; refine bodyPost_ret (v := .tuple #[noRec.val, .int .i64 0, .bool false]) (by simp [results, Tryz.results83, go_sem, noRec]) rfl ?_; exact ⟨rfl, by (repeat (first | with_reducible exact grew_refl _ | with_reducible assumption | with_reducible refine grew_split ?_ | with_reducible refine grew_mk ?_ | with_reducible refine grew_plus ?_ | with_reducible refine grew_alloc ?_ | with_reducible refine grew_drew ?_ | (with_reducible refine grew_set ?_ (by first | exact Nat.le_refl _ | omega | (simp [go_sem]; done) | (simp [go_sem]; omega)))))⟩)
  by_cases hk60 : 60 ≤ k
  · have HH := hid (head_full (s := bl s) hk60)
    go_wp2_with fail
    (obtain rfl := HP.out.symm.trans HH.out; refine bodyPost_ret (v := .tuple #[noRec.val, .int .i64 0, .bool false]) (by simp [results, Tryz.results83, go_sem, noRec]) rfl ?_; exact ⟨rfl, by (repeat (first | with_reducible exact grew_refl _ | with_reducible assumption | with_reducible refine grew_split ?_ | with_reducible refine grew_mk ?_ | with_reducible refine grew_plus ?_ | with_reducible refine grew_alloc ?_ | with_reducible refine grew_drew ?_ | (with_reducible refine grew_set ?_ (by first | exact Nat.le_refl _ | omega | (simp [go_sem]; done) | (simp [go_sem]; omega)))))⟩)
  have hk60' : k < 60 := by omega
  cases hok : RecR.ok ⟨t4, t5⟩
  · have HH := hid (head_bad (s := bl s) (k := k) (by rw [HB1.out, HFL.out]; exact hok))
    have HO := hid hok
    clear hok
    go_wp2_with fail
    refine (i_IsValidRecord t4 t5 _ HO.out _ (by unfold maxLen; omega) (by unfold maxLen; omega)).mono ?_
    (rintro e w' ⟨rfl, gx, rfl⟩)
    go_wp2_with fail
    (obtain rfl := HP.out.symm.trans HH.out; refine bodyPost_ret (v := .tuple #[noRec.val, .int .i64 0, .bool false]) (by simp [results, Tryz.results83, go_sem, noRec]) rfl ?_; exact ⟨rfl, by (repeat (first | with_reducible exact grew_refl _ | with_reducible assumption | with_reducible refine grew_split ?_ | with_reducible refine grew_mk ?_ | with_reducible refine grew_plus ?_ | with_reducible refine grew_alloc ?_ | with_reducible refine grew_drew ?_ | (with_reducible refine grew_set ?_ (by first | exact Nat.le_refl _ | omega | (simp [go_sem]; done) | (simp [go_sem]; omega)))))⟩)
  have HO := hid hok
  have HL := hid (lineV_bytes k ⟨t4, t5⟩)
  have z1 : (lineV k ⟨t4, t5⟩).size ≤ 1000 := by
    have h1 := line_len hok k hk60'
    have h2 := bl_len (lineV k ⟨t4, t5⟩)
    rw [HL.out, List.length_append, List.length_singleton] at h2
    omega
  have CE := hid (fun W (h : Env W) => i_encodeRecord k ⟨t4, t5⟩ W hk60' hok h)
  clear hok
  by_cases hline : RecR.line ⟨t4, t5⟩ k = bl t1
  · have HH := hid (head_yes (s := bl s) (k := k) HFD.out.symm hk60' (by rw [HB1.out, HFL.out]; exact HO.out) (by rw [HB1.out, HFL.out]; exact hline))
    have hcmp : ((lineV k ⟨t4, t5⟩).toList == (t1 ++ ⟨#[10]⟩).toList) = true := by
      rw [str_eq, beq_iff_eq, HL.out, bl_app, hline]
    have hz : (t1.size : Int) = (((cutB 10 (bl s)).1.length : Nat) : Int) := by rw [HB1.out, bl_len]
    have HZ := hid hz
    clear hline hz
    go_wp2_with fail
    refine (i_IsValidRecord t4 t5 _ HO.out _ (by unfold maxLen; omega) (by unfold maxLen; omega)).mono ?_
    (rintro e w' ⟨rfl, gx, rfl⟩)
    go_wp2_with fail
    refine (CE.out _ (HE.out.grew (by (repeat (first | with_reducible exact grew_refl _ | with_reducible assumption | with_reducible refine grew_split ?_ | with_reducible refine grew_mk ?_ | with_reducible refine grew_plus ?_ | with_reducible refine grew_alloc ?_ | with_reducible refine grew_drew ?_ | (with_reducible refine grew_set ?_ (by first | exact Nat.le_refl _ | omega | (simp [go_sem]; done) | (simp [go_sem]; omega)))))))).mono ?_
    (rintro e w' ⟨rfl, gx, rfl⟩)
    go_wp2_with fail
    obtain rfl := HP.out.symm.trans HH.out
    refine bodyPost_ret (v := .tuple #[RecR.val ⟨t4, t5⟩, .int .i64 ((t1.size : Int) + 1), .bool true]) (by simp [results, Tryz.results83, go_sem]) rfl ?_
    rw [HB1.out, HFL.out]
    exact ⟨by rw [bl_len]; rfl, by (repeat (first | with_reducible exact grew_refl _ | with_reducible assumption | with_reducible refine grew_split ?_ | with_reducible refine grew_mk ?_ | with_reducible refine grew_plus ?_ | with_reducible refine grew_alloc ?_ | with_reducible refine grew_drew ?_ | (with_reducible refine grew_set ?_ (by first | exact Nat.le_refl _ | omega | (simp [go_sem]; done) | (simp [go_sem]; omega)))))⟩
  · have hcmp : ((lineV k ⟨t4, t5⟩).toList == (t1 ++ ⟨#[10]⟩).toList) = false := by
      rw [str_eq, beq_eq_false_iff_ne, HL.out, bl_app]
      intro e
      exact hline (List.append_cancel_right e)
    have HH := hid (head_other (s := bl s) (k := k) (by rw [HB1.out, HFL.out]; exact hline))
    clear hline
    go_wp2_with fail
    refine (i_IsValidRecord t4 t5 _ HO.out _ (by unfold maxLen; omega) (by unfold maxLen; omega)).mono ?_
    (rintro e w' ⟨rfl, gx, rfl⟩)
    go_wp2_with fail
    refine (CE.out _ (HE.out.grew (by (repeat (first | with_reducible exact grew_refl _ | with_reducible assumption | with_reducible refine grew_split ?_ | with_reducible refine grew_mk ?_ | with_reducible refine grew_plus ?_ | with_reducible refine grew_alloc ?_ | with_reducible refine grew_drew ?_ | (with_reducible refine grew_set ?_ (by first | exact Nat.le_refl _ | omega | (simp [go_sem]; done) | (simp [go_sem]; omega)))))))).mono ?_
    (rintro e w' ⟨rfl, gx, rfl⟩)
    go_wp2_with fail
    (obtain rfl := HP.out.symm.trans HH.out; refine bodyPost_ret (v := .tuple #[noRec.val, .int .i64 0, .bool false]) (by simp [results, Tryz.results83, go_sem, noRec]) rfl ?_; exact ⟨rfl, by (repeat (first | with_reducible exact grew_refl _ | with_reducible assumption | with_reducible refine grew_split ?_ | with_reducible refine grew_mk ?_ | with_reducible refine grew_plus ?_ | with_reducible refine grew_alloc ?_ | with_reducible refine grew_drew ?_ | (with_reducible refine grew_set ?_ (by first | exact Nat.le_refl _ | omega | (simp [go_sem]; done) | (simp [go_sem]; omega)))))⟩)
end Go.Proofs.YtecghfcgahgfiaaGreatDoor
