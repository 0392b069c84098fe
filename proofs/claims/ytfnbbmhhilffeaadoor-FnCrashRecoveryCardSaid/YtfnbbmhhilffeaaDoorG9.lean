/- Which logs are whole, in both packages. -/
import Derived.Test.YtfnbbmhhilffeaaDoorG8
namespace Go.Proofs.YtfnbbmhhilffeaaDoor
open Go.RowKit

structure LogR where
  d : ByteArray
  p : ByteArray
  n : Int
abbrev LogR.val (l : LogR) : Value := .agg #[.string l.d, .string l.p, .int .i64 l.n]
def LogR.ok (l : LogR) : Bool := logB (bl l.d) (bl l.p) l.n
/-- The records of a log. -/
def LogR.recs (l : LogR) : List (RecR × Nat) := opensF (bl (l.d ++ l.p))
theorem LogR.ok_iff (l : LogR) : l.ok = true ↔ endOf l.recs = (l.d ++ l.p).size ∧ (l.recs.length : Int) = l.n ∧ ∃ j, j ≤ l.recs.length ∧ endAt l.recs j = l.d.size := by
  have h := ends_prefix 61 (bl l.d) (bl l.p) 0
  have e1 := bl_len (l.d ++ l.p)
  rw [bl_app] at e1
  unfold LogR.ok logB LogR.recs
  rw [bl_app]
  simp only [Bool.and_eq_true, decide_eq_true_eq, e1]
  constructor
  · rintro ⟨⟨h1, h2⟩, h3⟩
    obtain ⟨j, h4, h5⟩ := h.2 h3
    rw [bl_len] at h5
    exact ⟨h1, h2, j, h4, h5⟩
  · rintro ⟨h1, h2, j, h4, h5⟩
    exact ⟨⟨h1, h2⟩, h.1 ⟨j, h4, by rw [bl_len]; exact h5⟩⟩
theorem LogR.end_d {l : LogR} (h : l.ok = true) : endOf (opensF (bl l.d)) = l.d.size := by
  unfold LogR.ok logB at h
  simp only [Bool.and_eq_true, decide_eq_true_eq, bl_len] at h
  exact h.2
theorem LogR.no {l : LogR} (h : ¬ (endOf l.recs = (l.d ++ l.p).size ∧ (l.recs.length : Int) = l.n ∧ ∃ j, j ≤ l.recs.length ∧ endAt l.recs j = l.d.size)) : l.ok = false := by
  cases ho : l.ok
  · rfl
  · exact absurd (l.ok_iff.1 ho) h
theorem endsL_get {L : List (RecR × Nat)} {m k : Nat} (h : k < (endsL L m).length) : (endsL L m)[k] = ((endAt L k : Nat) : Int) := by simp [endsL]
theorem all_step {p : Nat → Prop} {k : Nat} (h : ∀ j, j < k → p j) (hk : p k) : ∀ j, j < k + 1 → p j := by
  intro j hj
  rcases Nat.lt_or_ge j k with h1 | h1
  · exact h j h1
  · have : j = k := by omega
    subst this; exact hk
set_option maxHeartbeats 4000000 in
theorem i_IsValidLog (l : LogR) (o : Bool) (ho : l.ok = o) (w : World) (h1 : l.d.size ≤ 2097152) (h2 : l.p.size ≤ 2097152) (hE : Env w) :
    Calls Tryd.prog 10 #[l.val] w fun e w' => e = .returned (.bool o) ∧ ∃ g, w' = plus w g := by
  have HE := hid hE
  subst ho
  obtain ⟨s, hs⟩ : ∃ s, s = l.d ++ l.p := ⟨_, rfl⟩
  obtain ⟨L, hL⟩ : ∃ L, L = l.recs := ⟨_, rfl⟩
  have hLs : opensF (bl s) = L := by rw [hL, hs]; rfl
  have hsz : s.size ≤ 4194304 := by rw [hs, ByteArray.size_append]; omega
  have HI := hid l.ok_iff
  have HN := hid (@LogR.no l)
  have hR := i_readRecords s
  rw [hLs] at hR
  have HR := hid hR
  have HS := hid hs
  have HL := hid hL
  have hl60 : L.length ≤ 60 := by rw [← hLs]; exact opensF_len _
  have he := (opensF_end (bl s)).1
  rw [hLs, bl_len] at he
  clear hE hs hL hLs hR
  obtain ⟨d, p, n⟩ := l
  simp only at h1 h2
  go_enter Tryd.func10, Tryd.ntmps10
  go_wp2_with fail
  have HS1 : s = d ++ p := HS.out
  rw [← HS1]
  have HS1 := hid HS1
  refine (HR.out _ hsz (HE.out.grew (by (repeat (first | with_reducible exact grew_refl _ | with_reducible assumption | with_reducible refine grew_split ?_ | with_reducible refine grew_mk ?_ | with_reducible refine grew_plus ?_ | with_reducible refine grew_alloc ?_ | with_reducible refine grew_drew ?_ | (with_reducible refine grew_set ?_ (by first | exact Nat.le_refl _ | omega | (simp [go_sem]; done) | (simp [go_sem]; omega)))))))).mono ?_
  rintro e w' ⟨⟨A, c, A', c', rfl, -, hO⟩, g1, rfl⟩
  have hA := hO.sl intRow_len
  have HA := hid hA
  have EL := endsL_len L L.length
  have EL := hid EL
  clear hO hA
  obtain ⟨b, off, rfl, hb, hc⟩ := HA.out.at_ (k := L.length) (by rw [EL.out]; omega)
  have hcl := icells hc (k := L.length) (by rw [EL.out]; omega)
  rw [endsL_get, endAt_len] at hcl
  have HC := hid hc
  clear hc
  have HI2 : Hid (LogR.ok ⟨d, p, n⟩ = true ↔ endOf L = s.size ∧ (L.length : Int) = n ∧ ∃ j, j ≤ L.length ∧ endAt L j = d.size) := hid (by
    have h := HI.out
    rw [← HL.out, ← HS.out] at h
    exact h)
  have HN2 : Hid (¬ (endOf L = s.size ∧ (L.length : Int) = n ∧ ∃ j, j ≤ L.length ∧ endAt L j = d.size) → LogR.ok ⟨d, p, n⟩ = false) := hid (fun h => by
    cases ho : LogR.ok ⟨d, p, n⟩
    · rfl
    · exact absurd (HI2.out.1 ho) h)
  clear HI HN HL HS HR
  have hs2 : s.size = d.size + p.size := by rw [HS1.out, ByteArray.size_append]
  have HS2 := hid hs2
  clear hs2
  by_cases hen : endOf L = s.size
  · have t1 : ((endOf L : Int) != (d.size : Int) + (p.size : Int)) = false := by rw [hen, HS2.out]; simp
    by_cases hct : (L.length : Int) = n
    · have t2 : ((L.length : Int) != n) = false := by rw [hct]; simp
      have HEN := hid hen
      have HCT := hid hct
      clear hen hct
      go_wp2_with fail
      go_loopw [35] (fun i wr => ∃ k : Nat, k ≤ L.length + 1 ∧ i = .int .i64 k ∧ (∀ j, j < k → endAt L j ≠ d.size) ∧ ∃ g, wr = plus (w.alloc (.cells #[.string d, .string p, .int .i64 n] 25)) (g1.add g)) (fun i _ => L.length + 1 - (intOf i).toNat)
      case atStart => exact ⟨0, Nat.zero_le _, rfl, by omega, ⟨#[], g1.n⟩, by simp [Ext.add]⟩
      case round =>
        obtain ⟨k, hk, rfl, hall, g, rfl⟩ := hrel
        have H0 := hid hall
        clear hall
        by_cases hlt : k < L.length + 1
        · have hck := HC.out k (by rw [EL.out]; omega) 0 _ rfl
          simp only [Nat.mul_one, Nat.add_zero] at hck
          rw [endsL_get] at hck
          have hck2 := (cell?_plus _ g hb).trans hck
          rw [plus_plus] at hck2
          clear hck
          by_cases heq : endAt L k = d.size
          · have t3 : ((endAt L k : Int) == (d.size : Int)) = true := by rw [heq]; simp
            have HY := hid (HI2.out.2 ⟨HEN.out, HCT.out, k, by omega, heq⟩)
            clear heq
            go_wp2_with fail
            go_ret
            exact ⟨ret_bool HY.out.symm, by (repeat (first | with_reducible exact grew_refl _ | with_reducible assumption | with_reducible refine grew_split ?_ | with_reducible refine grew_mk ?_ | with_reducible refine grew_plus ?_ | with_reducible refine grew_alloc ?_ | with_reducible refine grew_drew ?_ | (with_reducible refine grew_set ?_ (by first | exact Nat.le_refl _ | omega | (simp [go_sem]; done) | (simp [go_sem]; omega)))))⟩
          · have t3 : ((endAt L k : Int) == (d.size : Int)) = false := by rw [beq_eq_false_iff_ne]; omega
            have HQ := hid heq
            clear heq
            go_wp2_with fail
            go_roundw
            case rel => exact ⟨k + 1, by omega, by go_num, all_step H0.out HQ.out, _, rfl⟩
            case measure => simp [intOf]; omega
        · obtain rfl : k = L.length + 1 := by omega
          have HY := hid (HN2.out (fun ⟨_, _, j, h1, h2⟩ => H0.out j (by omega) h2))
          go_wp2_with fail
          go_ret
          exact ⟨ret_bool HY.out.symm, by (repeat (first | with_reducible exact grew_refl _ | with_reducible assumption | with_reducible refine grew_split ?_ | with_reducible refine grew_mk ?_ | with_reducible refine grew_plus ?_ | with_reducible refine grew_alloc ?_ | with_reducible refine grew_drew ?_ | (with_reducible refine grew_set ?_ (by first | exact Nat.le_refl _ | omega | (simp [go_sem]; done) | (simp [go_sem]; omega)))))⟩
    · have t2 : ((L.length : Int) != n) = true := by simpa using hct
      have HY := hid (HN2.out (fun ⟨_, h, _⟩ => hct h))
      clear hct hen
      go_wp2_with fail
      go_ret
      exact ⟨ret_bool HY.out.symm, by (repeat (first | with_reducible exact grew_refl _ | with_reducible assumption | with_reducible refine grew_split ?_ | with_reducible refine grew_mk ?_ | with_reducible refine grew_plus ?_ | with_reducible refine grew_alloc ?_ | with_reducible refine grew_drew ?_ | (with_reducible refine grew_set ?_ (by first | exact Nat.le_refl _ | omega | (simp [go_sem]; done) | (simp [go_sem]; omega)))))⟩
  · have t1 : ((endOf L : Int) != (d.size : Int) + (p.size : Int)) = true := by have := HS2.out; simp; omega
    have HY := hid (HN2.out (fun ⟨h, _⟩ => hen h))
    clear hen
    go_wp2_with fail
    go_ret
    exact ⟨ret_bool HY.out.symm, by (repeat (first | with_reducible exact grew_refl _ | with_reducible assumption | with_reducible refine grew_split ?_ | with_reducible refine grew_mk ?_ | with_reducible refine grew_plus ?_ | with_reducible refine grew_alloc ?_ | with_reducible refine grew_drew ?_ | (with_reducible refine grew_set ?_ (by first | exact Nat.le_refl _ | omega | (simp [go_sem]; done) | (simp [go_sem]; omega)))))⟩
set_option maxHeartbeats 2000000 in
theorem s_l27Log (l : LogR) (o : Bool) (ho : l.ok = o) (w : World) (h1 : l.d.size ≤ 2097152) (h2 : l.p.size ≤ 2097152) :
    Calls Tryd.prog 31 #[l.val] w fun e w' => e = .returned (.bool o) ∧ ∃ g, w' = plus w g := by
  subst ho
  obtain ⟨d, p, n⟩ := l
  simp only at h1 h2 ⊢
  obtain ⟨s, hs⟩ : ∃ s, s = d ++ p := ⟨_, rfl⟩
  have hsz : s.size = d.size + p.size := by rw [hs, ByteArray.size_append]
  have hbd := (opensF_end (bl s)).2
  have HO : Hid (LogR.ok ⟨d, p, n⟩ = (decide (endOf (opensF (bl s)) = d.size + p.size) && decide (((opensF (bl s)).length : Int) = n) && decide (endOf (opensF (bl d)) = d.size))) := hid (by
    unfold LogR.ok logB
    rw [← bl_app, ← hs, bl_len, bl_len, hsz])
  by_cases hbig : 30000 < d.size + p.size
  · have HY : Hid (LogR.ok ⟨d, p, n⟩ = false) := hid (by
      rw [HO.out, show decide (endOf (opensF (bl s)) = d.size + p.size) = false by simp; omega]; simp)
    clear hs
    have hbig' : (30000 : Int) < (d.size : Int) + (p.size : Int) := by omega
    go_enter Tryd.func31, Tryd.ntmps31
    go_wp2_with fail
    go_ret
    exact ⟨ret_bool HY.out.symm, by (repeat (first | with_reducible exact grew_refl _ | with_reducible assumption | with_reducible refine grew_split ?_ | with_reducible refine grew_mk ?_ | with_reducible refine grew_plus ?_ | with_reducible refine grew_alloc ?_ | with_reducible refine grew_drew ?_ | (with_reducible refine grew_set ?_ (by first | exact Nat.le_refl _ | omega | (simp [go_sem]; done) | (simp [go_sem]; omega)))))⟩
  · have hle : s.size ≤ 4194304 := by omega
    have hbig' : (d.size : Int) + (p.size : Int) ≤ 30000 := by omega
    have HR := hid (fun W => s_l27Open s W hle)
    have HS := hid hs
    clear hs
    go_enter Tryd.func31, Tryd.ntmps31
    go_wp2_with fail
    rw [← HS.out]
    refine (HR.out _).mono ?_
    rintro e w' ⟨⟨A, c, rfl, -⟩, g1, rfl⟩
    go_wp2_with fail
    refine (s_l27Open d _ (by omega)).mono ?_
    rintro e w' ⟨⟨A2, c2, rfl, -⟩, g2, rfl⟩
    go_wp2_with fail
    all_goals
      go_ret
      exact ⟨ret_bool (by rw [HO.out]; grind), by (repeat (first | with_reducible exact grew_refl _ | with_reducible assumption | with_reducible refine grew_split ?_ | with_reducible refine grew_mk ?_ | with_reducible refine grew_plus ?_ | with_reducible refine grew_alloc ?_ | with_reducible refine grew_drew ?_ | (with_reducible refine grew_set ?_ (by first | exact Nat.le_refl _ | omega | (simp [go_sem]; done) | (simp [go_sem]; omega)))))⟩
end Go.Proofs.YtfnbbmhhilffeaaDoor
