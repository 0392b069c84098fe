/- A light's period, whether it is lit, the share that is lit: in both packages. Conditions: the light is good where the function is told only of good ones. -/
import Derived.Test.YtjlaidjogladaaaDoorLi2
import Derived.Test.YtjlaidjogladaaaDoorL2
namespace Go.Proofs.YtjlaidjogladaaaDoor
open Go.RowKit

def perTo (l : List PhaseR) (k : Nat) : Nat := ((l.take k).map fun p => p.tenths.toNat).sum
def litTo (l : List PhaseR) (k : Nat) : Nat := ((l.take k).map fun p => if p.lit then p.tenths.toNat else 0).sum
def per (l : List PhaseR) : Nat := perTo l l.length
theorem perTo_succ {l : List PhaseR} {k : Nat} (h : k < l.length) : perTo l (k + 1) = perTo l k + l[k].tenths.toNat := by
  unfold perTo; rw [List.take_succ_eq_append_getElem h, List.map_append, List.sum_append]; rfl
theorem litTo_succ {l : List PhaseR} {k : Nat} (h : k < l.length) : litTo l (k + 1) = litTo l k + if l[k].lit then l[k].tenths.toNat else 0 := by
  unfold litTo; rw [List.take_succ_eq_append_getElem h, List.map_append, List.sum_append]; rfl
theorem LightC.len {v : LightC} (h : v.ok = true) : 2 ≤ v.ph.length ∧ v.ph.length ≤ 8 := by
  simp only [LightC.ok, inB, Bool.and_eq_true, decide_eq_true_eq] at h
  omega
theorem LightC.ten {v : LightC} (h : v.ok = true) {k : Nat} (hk : k < v.ph.length) : 1 ≤ v.ph[k].tenths ∧ v.ph[k].tenths ≤ 200 := by
  simp only [LightC.ok, Bool.and_eq_true] at h
  have := allUpto_iff.1 h.2 k hk
  simp only [phStep, hk, ↓reduceDIte, inB, Bool.and_eq_true, decide_eq_true_eq] at this
  omega
/-- What a good light's phases are, as the walks want it. -/
def PhOk (l : List PhaseR) : Prop := 2 ≤ l.length ∧ l.length ≤ 8 ∧ ∀ k, (hk : k < l.length) → 1 ≤ l[k].tenths ∧ l[k].tenths ≤ 200
theorem LightC.phok {v : LightC} (h : v.ok = true) : PhOk v.ph := ⟨(v.len h).1, (v.len h).2, fun _ hk => v.ten h hk⟩
theorem PhOk.bound {l : List PhaseR} (h : PhOk l) : ∀ k, k ≤ l.length → litTo l k ≤ perTo l k ∧ perTo l k ≤ 200 * k ∧ k ≤ perTo l k := by
  intro k
  induction k with
  | zero => intro _; simp [perTo, litTo]
  | succ k ih =>
    intro hk
    have := ih (by omega)
    have hb := h.2.2 k (by omega)
    rw [perTo_succ (by omega), litTo_succ (by omega)]
    split <;> omega
theorem PhOk.per {l : List PhaseR} (h : PhOk l) : 1 ≤ per l ∧ per l ≤ 1600 := by
  have := h.bound l.length (Nat.le_refl _)
  have h1 := h.1
  have h2 := h.2.1
  unfold Go.Proofs.YtjlaidjogladaaaDoor.per
  omega
/-- Whether a light is lit, so many tenths behind the beginning of its period. -/
def litAt : List PhaseR → Int → Bool
  | [], _ => false
  | p :: r, left => if left < p.tenths then p.lit else litAt r (left - p.tenths)
def litF (l : List PhaseR) (m : Int) : Bool := litAt l (m % (per l : Int))
theorem litAt_drop {l : List PhaseR} {k : Nat} (h : k < l.length) (left : Int) : litAt (l.drop k) left = if left < l[k].tenths then l[k].lit else litAt (l.drop (k + 1)) (left - l[k].tenths) := by
  rw [List.drop_eq_getElem_cons h]; rfl

set_option maxHeartbeats 1000000 in
theorem s_l24Period (v : LightV) (hk : PhOk v.core.ph) (w : World) (hv : v.At w) :
    Calls Tryd.prog 24 #[v.val] w fun e w' => e = .returned (.tuple #[.int .i64 (per v.core.ph), .int .i64 (litTo v.core.ph v.core.ph.length)]) ∧ ∃ g, w' = plus w g := by
  obtain ⟨⟨id, nm, x, y, rg, ph⟩, A, c⟩ := v
  have hp := hv.ph
  simp only at hp hk ⊢
  clear hv
  have hl1 := hk.1
  have hl2 := hk.2.1
  have HK := hid hk
  clear hk
  go_enter Tryd.func24, Tryd.ntmps24
  go_wp2_with fail
  go_loopw [4, 5, 6] (fun a b i wr => ∃ k : Nat, k ≤ ph.length ∧ i = .int .i64 k ∧ a = .int .i64 (perTo ph k) ∧ b = .int .i64 (litTo ph k) ∧ (∃ g, wr = plus (w.alloc _) g)) (fun _ _ i _ => ph.length - (intOf i).toNat)
  case atStart => exact ⟨0, Nat.zero_le _, rfl, rfl, rfl, by (repeat (first | with_reducible exact grew_refl _ | with_reducible assumption | with_reducible refine grew_split ?_ | with_reducible refine grew_mk ?_ | with_reducible refine grew_plus ?_ | with_reducible refine grew_alloc ?_ | with_reducible refine grew_drew ?_ | (with_reducible refine grew_set ?_ (by first | exact Nat.le_refl _ | omega | (simp [go_sem]; done) | (simp [go_sem]; omega)))))⟩
  case round =>
    obtain ⟨k, hk, rfl, rfl, rfl, g, rfl⟩ := hrel
    have hB := HK.out.bound k hk
    by_cases hlt : k < ph.length
    · obtain ⟨b, off, rfl, hb, hc⟩ := hp.at_ hlt
      obtain ⟨hc0, hc1⟩ := cells2 hc hlt
      have ht := HK.out.2.2 k hlt
      have h1 := hid (perTo_succ hlt)
      have h2 := hid (litTo_succ hlt)
      clear hc hp
      go_wp2
      all_goals
        go_roundw
        case rel => exact ⟨k + 1, by omega, by go_num, by rw [h1.out]; go_num, by rw [h2.out]; first | (rw [if_pos (by assumption)]; go_num) | (rw [if_neg (by grind)]; rfl), by (repeat (first | with_reducible exact grew_refl _ | with_reducible assumption | with_reducible refine grew_split ?_ | with_reducible refine grew_mk ?_ | with_reducible refine grew_plus ?_ | with_reducible refine grew_alloc ?_ | with_reducible refine grew_drew ?_ | (with_reducible refine grew_set ?_ (by first | exact Nat.le_refl _ | omega | (simp [go_sem]; done) | (simp [go_sem]; omega)))))⟩
        case measure => simp [intOf]; omega
    · obtain rfl : k = ph.length := by omega
      clear hp
      go_wp2
      go_ret2
      exact ⟨rfl, by (repeat (first | with_reducible exact grew_refl _ | with_reducible assumption | with_reducible refine grew_split ?_ | with_reducible refine grew_mk ?_ | with_reducible refine grew_plus ?_ | with_reducible refine grew_alloc ?_ | with_reducible refine grew_drew ?_ | (with_reducible refine grew_set ?_ (by first | exact Nat.le_refl _ | omega | (simp [go_sem]; done) | (simp [go_sem]; omega)))))⟩
set_option maxHeartbeats 1000000 in
theorem i_periodOf (v : LightV) (hk : PhOk v.core.ph) (w : World) (hv : v.At w) :
    Calls Tryd.prog 23 #[v.val] w fun e w' => e = .returned (.int .i64 (per v.core.ph)) ∧ ∃ g, w' = plus w g := by
  obtain ⟨⟨id, nm, x, y, rg, ph⟩, A, c⟩ := v
  have hp := hv.ph
  simp only at hp hk ⊢
  clear hv
  have hl1 := hk.1
  have hl2 := hk.2.1
  have HK := hid hk
  clear hk
  go_enter Tryd.func23, Tryd.ntmps23
  go_wp2_with fail
  go_loopw [3, 9, 5] (fun a i _ wr => ∃ k : Nat, k ≤ ph.length ∧ i = .int .i64 k ∧ a = .int .i64 (perTo ph k) ∧ (∃ g, wr = plus (w.alloc _) g)) (fun _ i _ _ => ph.length - (intOf i).toNat)
  case atStart => exact ⟨0, Nat.zero_le _, rfl, rfl, by (repeat (first | with_reducible exact grew_refl _ | with_reducible assumption | with_reducible refine grew_split ?_ | with_reducible refine grew_mk ?_ | with_reducible refine grew_plus ?_ | with_reducible refine grew_alloc ?_ | with_reducible refine grew_drew ?_ | (with_reducible refine grew_set ?_ (by first | exact Nat.le_refl _ | omega | (simp [go_sem]; done) | (simp [go_sem]; omega)))))⟩
  case round =>
    obtain ⟨k, hk, rfl, rfl, g, rfl⟩ := hrel
    have hB := HK.out.bound k hk
    by_cases hlt : k < ph.length
    · obtain ⟨b, off, rfl, hb, hc⟩ := hp.at_ hlt
      obtain ⟨hc0, hc1⟩ := cells2 hc hlt
      have ht := HK.out.2.2 k hlt
      have h1 := hid (perTo_succ hlt)
      clear hc hp
      go_wp2
      go_roundw
      case rel => exact ⟨k + 1, by omega, by go_num, by rw [h1.out]; go_num, by (repeat (first | with_reducible exact grew_refl _ | with_reducible assumption | with_reducible refine grew_split ?_ | with_reducible refine grew_mk ?_ | with_reducible refine grew_plus ?_ | with_reducible refine grew_alloc ?_ | with_reducible refine grew_drew ?_ | (with_reducible refine grew_set ?_ (by first | exact Nat.le_refl _ | omega | (simp [go_sem]; done) | (simp [go_sem]; omega)))))⟩
      case measure => simp [intOf]; omega
    · obtain rfl : k = ph.length := by omega
      clear hp
      go_wp2
      go_ret
      exact ⟨rfl, by (repeat (first | with_reducible exact grew_refl _ | with_reducible assumption | with_reducible refine grew_split ?_ | with_reducible refine grew_mk ?_ | with_reducible refine grew_plus ?_ | with_reducible refine grew_alloc ?_ | with_reducible refine grew_drew ?_ | (with_reducible refine grew_set ?_ (by first | exact Nat.le_refl _ | omega | (simp [go_sem]; done) | (simp [go_sem]; omega)))))⟩
set_option maxHeartbeats 1000000 in
theorem s_l24Lit (v : LightV) (hk : PhOk v.core.ph) (m : Int) (h0 : 0 ≤ m) (hm : m ≤ 9223372036854775807) (w : World) (hv : v.At w) :
    Calls Tryd.prog 22 #[v.val, .int .i64 m] w fun e w' => e = .returned (.bool (litF v.core.ph m)) ∧ ∃ g, w' = plus w g := by
  have hv0 := hid hv
  have hk0 := hid hk
  have hp := hv.ph
  clear hv
  obtain ⟨p1, p2⟩ := hk.per
  have hl1 := hk.1
  have hl2 := hk.2.1
  have h3 : ((per v.core.ph : Int) == 0) = false := by rw [beq_eq_false_iff_ne]; omega
  clear hk
  go_enter Tryd.func22, Tryd.ntmps22
  go_wp2_with fail
  refine (s_l24Period v hk0.out _ (hv0.out.alloc _)).mono ?_
  (rintro e w' ⟨rfl, gx, rfl⟩)
  obtain ⟨⟨id, nm, x, y, rg, ph⟩, A, c⟩ := v
  simp only at hp hk0 hl1 hl2 p1 p2 h3 ⊢
  clear hv0
  have hm0 : 0 ≤ m % (per ph : Int) := Int.emod_nonneg _ (by omega)
  have hm1 : m % (per ph : Int) < (per ph : Int) := Int.emod_lt_of_pos _ (by omega)
  have hz : perTo ph 0 = 0 := rfl
  have hlast : perTo ph ph.length = per ph := rfl
  have HZ := hid hz
  have HL := hid hlast
  clear hz hlast
  go_wp2_with fail
  go_loopw [7, 8] (fun a i wr => ∃ (k : Nat) (L : Int), k ≤ ph.length ∧ i = .int .i64 k ∧ a = .int .i64 L ∧ 0 ≤ L ∧ L < (per ph : Int) - (perTo ph k : Int) ∧ litAt (ph.drop k) L = litF ph m ∧ (∃ g, wr = plus (w.alloc (.cells #[.int .i64 id, .string nm, .int .i64 x, .int .i64 y, .int .i64 rg, .slice A ph.length c] 28)) g)) (fun _ i _ => ph.length - (intOf i).toNat)
  case atStart => exact ⟨0, _, Nat.zero_le _, rfl, rfl, hm0, by rw [HZ.out]; omega, rfl, by (repeat (first | with_reducible exact grew_refl _ | with_reducible assumption | with_reducible refine grew_split ?_ | with_reducible refine grew_mk ?_ | with_reducible refine grew_plus ?_ | with_reducible refine grew_alloc ?_ | with_reducible refine grew_drew ?_ | (with_reducible refine grew_set ?_ (by first | exact Nat.le_refl _ | omega | (simp [go_sem]; done) | (simp [go_sem]; omega)))))⟩
  case round =>
    obtain ⟨k, L, hk, rfl, rfl, hL0, hL1, hF, g, rfl⟩ := hrel
    have HF := hid hF
    clear hF hm0 hm1
    by_cases hlt : k < ph.length
    · obtain ⟨b, off, rfl, hb, hc⟩ := hp.at_ hlt
      obtain ⟨hc0, hc1⟩ := cells2 hc hlt
      have ht := hk0.out.2.2 k hlt
      have h1 := hid (perTo_succ hlt)
      have h2 := hid (litAt_drop hlt L)
      clear hc hp
      by_cases hle : L < ph[k].tenths
      · go_wp2
        go_ret
        exact ⟨ret_bool (by rw [← HF.out, h2.out, if_pos hle]), by (repeat (first | with_reducible exact grew_refl _ | with_reducible assumption | with_reducible refine grew_split ?_ | with_reducible refine grew_mk ?_ | with_reducible refine grew_plus ?_ | with_reducible refine grew_alloc ?_ | with_reducible refine grew_drew ?_ | (with_reducible refine grew_set ?_ (by first | exact Nat.le_refl _ | omega | (simp [go_sem]; done) | (simp [go_sem]; omega)))))⟩
      · go_wp2
        go_roundw
        case rel => exact ⟨k + 1, L - ph[k].tenths, by omega, by go_num, rfl, by omega, by rw [h1.out]; omega, by rw [← HF.out, h2.out, if_neg hle], by (repeat (first | with_reducible exact grew_refl _ | with_reducible assumption | with_reducible refine grew_split ?_ | with_reducible refine grew_mk ?_ | with_reducible refine grew_plus ?_ | with_reducible refine grew_alloc ?_ | with_reducible refine grew_drew ?_ | (with_reducible refine grew_set ?_ (by first | exact Nat.le_refl _ | omega | (simp [go_sem]; done) | (simp [go_sem]; omega)))))⟩
        case measure => simp [intOf]; omega
    · exfalso
      obtain rfl : k = ph.length := by omega
      rw [HL.out] at hL1
      omega
set_option maxHeartbeats 1000000 in
theorem i_isLit (v : LightV) (hk : PhOk v.core.ph) (m : Int) (h0 : 0 ≤ m) (hm : m ≤ 9223372036854775807) (w : World) (hv : v.At w) :
    Calls Tryd.prog 19 #[v.val, .int .i64 m] w fun e w' => e = .returned (.bool (litF v.core.ph m)) ∧ ∃ g, w' = plus w g := by
  have hv0 := hid hv
  have hk0 := hid hk
  have hp := hv.ph
  clear hv
  obtain ⟨p1, p2⟩ := hk.per
  have hl1 := hk.1
  have hl2 := hk.2.1
  have h3 : ((per v.core.ph : Int) == 0) = false := by rw [beq_eq_false_iff_ne]; omega
  clear hk
  go_enter Tryd.func19, Tryd.ntmps19
  go_wp2_with fail
  refine (i_periodOf v hk0.out _ (hv0.out.alloc _)).mono ?_
  (rintro e w' ⟨rfl, gx, rfl⟩)
  obtain ⟨⟨id, nm, x, y, rg, ph⟩, A, c⟩ := v
  simp only at hp hk0 hl1 hl2 p1 p2 h3 ⊢
  clear hv0
  have hm0 : 0 ≤ m % (per ph : Int) := Int.emod_nonneg _ (by omega)
  have hm1 : m % (per ph : Int) < (per ph : Int) := Int.emod_lt_of_pos _ (by omega)
  have hz : perTo ph 0 = 0 := rfl
  have hlast : perTo ph ph.length = per ph := rfl
  have HZ := hid hz
  have HL := hid hlast
  clear hz hlast
  go_wp2_with fail
  go_loopw [5, 6] (fun a i wr => ∃ (k : Nat) (L : Int), k ≤ ph.length ∧ i = .int .i64 k ∧ a = .int .i64 L ∧ 0 ≤ L ∧ L < (per ph : Int) - (perTo ph k : Int) ∧ litAt (ph.drop k) L = litF ph m ∧ (∃ g, wr = plus (w.alloc (.cells #[.int .i64 id, .string nm, .int .i64 x, .int .i64 y, .int .i64 rg, .slice A ph.length c] 28)) g)) (fun _ i _ => ph.length - (intOf i).toNat)
  case atStart => exact ⟨0, _, Nat.zero_le _, rfl, rfl, hm0, by rw [HZ.out]; omega, rfl, by (repeat (first | with_reducible exact grew_refl _ | with_reducible assumption | with_reducible refine grew_split ?_ | with_reducible refine grew_mk ?_ | with_reducible refine grew_plus ?_ | with_reducible refine grew_alloc ?_ | with_reducible refine grew_drew ?_ | (with_reducible refine grew_set ?_ (by first | exact Nat.le_refl _ | omega | (simp [go_sem]; done) | (simp [go_sem]; omega)))))⟩
  case round =>
    obtain ⟨k, L, hk, rfl, rfl, hL0, hL1, hF, g, rfl⟩ := hrel
    have HF := hid hF
    clear hF hm0 hm1
    by_cases hlt : k < ph.length
    · obtain ⟨b, off, rfl, hb, hc⟩ := hp.at_ hlt
      obtain ⟨hc0, hc1⟩ := cells2 hc hlt
      have ht := hk0.out.2.2 k hlt
      have h1 := hid (perTo_succ hlt)
      have h2 := hid (litAt_drop hlt L)
      clear hc hp
      by_cases hle : L < ph[k].tenths
      · go_wp2
        go_ret
        exact ⟨ret_bool (by rw [← HF.out, h2.out, if_pos hle]), by (repeat (first | with_reducible exact grew_refl _ | with_reducible assumption | with_reducible refine grew_split ?_ | with_reducible refine grew_mk ?_ | with_reducible refine grew_plus ?_ | with_reducible refine grew_alloc ?_ | with_reducible refine grew_drew ?_ | (with_reducible refine grew_set ?_ (by first | exact Nat.le_refl _ | omega | (simp [go_sem]; done) | (simp [go_sem]; omega)))))⟩
      · go_wp2
        go_roundw
        case rel => exact ⟨k + 1, L - ph[k].tenths, by omega, by go_num, rfl, by omega, by rw [h1.out]; omega, by rw [← HF.out, h2.out, if_neg hle], by (repeat (first | with_reducible exact grew_refl _ | with_reducible assumption | with_reducible refine grew_split ?_ | with_reducible refine grew_mk ?_ | with_reducible refine grew_plus ?_ | with_reducible refine grew_alloc ?_ | with_reducible refine grew_drew ?_ | (with_reducible refine grew_set ?_ (by first | exact Nat.le_refl _ | omega | (simp [go_sem]; done) | (simp [go_sem]; omega)))))⟩
        case measure => simp [intOf]; omega
    · exfalso
      obtain rfl : k = ph.length := by omega
      rw [HL.out] at hL1
      omega
set_option maxHeartbeats 400000 in
theorem s_l24Moment (n : Int) (o : Bool) (ho : inB n 0 1000000 = o) (w : World) :
    Calls Tryd.prog 21 #[.int .i64 n] w fun e w' => e = .returned (.bool o) ∧ w = w' := by
  go_enter Tryd.func21, Tryd.ntmps21
  go_wp2_with (go_at_call 37; refine (s_l1In _ _ _ _ ho _).mono ?_; (rintro e w' ⟨rfl, rfl⟩))
  go_ret
  exact ⟨rfl, rfl⟩
set_option maxHeartbeats 400000 in
theorem i_isMoment (n : Int) (o : Bool) (ho : inB n 0 1000000 = o) (w : World) :
    Calls Tryd.prog 18 #[.int .i64 n] w fun e w' => e = .returned (.bool o) ∧ w = w' := by
  go_enter Tryd.func18, Tryd.ntmps18
  go_wp2_with (go_at_call 25; refine (i_inside _ _ _ _ ho _).mono ?_; (rintro e w' ⟨rfl, rfl⟩))
  go_ret
  exact ⟨rfl, rfl⟩

theorem ret_bb {a b c d : Bool} (h : a = b) (h' : c = d) : Ending.returned (.tuple #[.bool a, .bool c]) = .returned (.tuple #[.bool b, .bool d]) := by rw [h, h']
theorem ret_ib {a b : Int} {c d : Bool} (h : a = b) (h' : c = d) : Ending.returned (.tuple #[.int .i64 a, .bool c]) = .returned (.tuple #[.int .i64 b, .bool d]) := by rw [h, h']
theorem ret_iib {a b c d : Int} {e f : Bool} (h : a = b) (h' : c = d) (h'' : e = f) : Ending.returned (.tuple #[.int .i64 a, .int .i64 c, .bool e]) = .returned (.tuple #[.int .i64 b, .int .i64 d, .bool f]) := by rw [h, h', h'']
def isLitF (v : LightC) (m : Int) : Bool × Bool := if v.ok && inB m 0 1000000 then (litF v.ph m, true) else (false, false)

set_option maxHeartbeats 1000000 in
theorem s_IsLit (v : LightV) (m : Int) (w : World) (hv : v.At w) :
    Calls Tryd.prog 7 #[v.val, .int .i64 m] w fun e w' => e = .returned (.tuple #[.bool (isLitF v.core m).1, .bool (isLitF v.core m).2]) ∧ ∃ g, w' = plus w g := by
  have HV := hid hv
  cases ho : v.core.ok
  · have HF : Hid (isLitF v.core m = (false, false)) := hid (by simp [isLitF, ho])
    clear hv
    go_enter Tryd.func7, Tryd.ntmps7
    go_wp2_with (go_at_call 20; refine (s_l24One v _ ho _ (HV.out.alloc _)).mono ?_; (rintro e w' ⟨rfl, gx, rfl⟩))
    go_ret2
    exact ⟨ret_bb (by rw [HF.out]) (by rw [HF.out]), by (repeat (first | with_reducible exact grew_refl _ | with_reducible assumption | with_reducible refine grew_split ?_ | with_reducible refine grew_mk ?_ | with_reducible refine grew_plus ?_ | with_reducible refine grew_alloc ?_ | with_reducible refine grew_drew ?_ | (with_reducible refine grew_set ?_ (by first | exact Nat.le_refl _ | omega | (simp [go_sem]; done) | (simp [go_sem]; omega)))))⟩
  cases hi : inB m 0 1000000
  · have HF : Hid (isLitF v.core m = (false, false)) := hid (by simp [isLitF, ho, hi])
    clear hv
    go_enter Tryd.func7, Tryd.ntmps7
    go_wp2_with (first | (go_at_call 20; refine (s_l24One v _ ho _ (HV.out.alloc _)).mono ?_; (rintro e w' ⟨rfl, gx, rfl⟩)) | (go_at_call 21; refine (s_l24Moment _ _ hi _).mono ?_; (rintro e w' ⟨rfl, rfl⟩)))
    go_ret2
    exact ⟨ret_bb (by rw [HF.out]) (by rw [HF.out]), by (repeat (first | with_reducible exact grew_refl _ | with_reducible assumption | with_reducible refine grew_split ?_ | with_reducible refine grew_mk ?_ | with_reducible refine grew_plus ?_ | with_reducible refine grew_alloc ?_ | with_reducible refine grew_drew ?_ | (with_reducible refine grew_set ?_ (by first | exact Nat.le_refl _ | omega | (simp [go_sem]; done) | (simp [go_sem]; omega)))))⟩
  · have HF : Hid (isLitF v.core m = (litF v.core.ph m, true)) := hid (by simp [isLitF, ho, hi])
    have hm : 0 ≤ m ∧ m ≤ 1000000 := by simpa [inB] using hi
    have HK := hid (v.core.phok ho)
    clear hv
    go_enter Tryd.func7, Tryd.ntmps7
    go_wp2_with (first | (go_at_call 20; refine (s_l24One v _ ho _ (HV.out.alloc _)).mono ?_; (rintro e w' ⟨rfl, gx, rfl⟩)) | (go_at_call 21; refine (s_l24Moment _ _ hi _).mono ?_; (rintro e w' ⟨rfl, rfl⟩)) | (go_at_call 22; refine (s_l24Lit v HK.out _ (by omega) (by omega) _ ((HV.out.alloc _).plus _)).mono ?_; (rintro e w' ⟨rfl, gx, rfl⟩)))
    go_ret2
    exact ⟨ret_bb (by rw [HF.out]) (by rw [HF.out]), by (repeat (first | with_reducible exact grew_refl _ | with_reducible assumption | with_reducible refine grew_split ?_ | with_reducible refine grew_mk ?_ | with_reducible refine grew_plus ?_ | with_reducible refine grew_alloc ?_ | with_reducible refine grew_drew ?_ | (with_reducible refine grew_set ?_ (by first | exact Nat.le_refl _ | omega | (simp [go_sem]; done) | (simp [go_sem]; omega)))))⟩
set_option maxHeartbeats 1000000 in
theorem i_IsLit (v : LightV) (m : Int) (w : World) (hv : v.At w) :
    Calls Tryd.prog 6 #[v.val, .int .i64 m] w fun e w' => e = .returned (.tuple #[.bool (isLitF v.core m).1, .bool (isLitF v.core m).2]) ∧ ∃ g, w' = plus w g := by
  have HV := hid hv
  cases ho : v.core.ok
  · have HF : Hid (isLitF v.core m = (false, false)) := hid (by simp [isLitF, ho])
    clear hv
    go_enter Tryd.func6, Tryd.ntmps6
    go_wp2_with (go_at_call 10; refine (i_IsLight v _ ho _ (HV.out.alloc _)).mono ?_; (rintro e w' ⟨rfl, gx, rfl⟩))
    go_ret2
    exact ⟨ret_bb (by rw [HF.out]) (by rw [HF.out]), by (repeat (first | with_reducible exact grew_refl _ | with_reducible assumption | with_reducible refine grew_split ?_ | with_reducible refine grew_mk ?_ | with_reducible refine grew_plus ?_ | with_reducible refine grew_alloc ?_ | with_reducible refine grew_drew ?_ | (with_reducible refine grew_set ?_ (by first | exact Nat.le_refl _ | omega | (simp [go_sem]; done) | (simp [go_sem]; omega)))))⟩
  cases hi : inB m 0 1000000
  · have HF : Hid (isLitF v.core m = (false, false)) := hid (by simp [isLitF, ho, hi])
    clear hv
    go_enter Tryd.func6, Tryd.ntmps6
    go_wp2_with (first | (go_at_call 10; refine (i_IsLight v _ ho _ (HV.out.alloc _)).mono ?_; (rintro e w' ⟨rfl, gx, rfl⟩)) | (go_at_call 18; refine (i_isMoment _ _ hi _).mono ?_; (rintro e w' ⟨rfl, rfl⟩)))
    go_ret2
    exact ⟨ret_bb (by rw [HF.out]) (by rw [HF.out]), by (repeat (first | with_reducible exact grew_refl _ | with_reducible assumption | with_reducible refine grew_split ?_ | with_reducible refine grew_mk ?_ | with_reducible refine grew_plus ?_ | with_reducible refine grew_alloc ?_ | with_reducible refine grew_drew ?_ | (with_reducible refine grew_set ?_ (by first | exact Nat.le_refl _ | omega | (simp [go_sem]; done) | (simp [go_sem]; omega)))))⟩
  · have HF : Hid (isLitF v.core m = (litF v.core.ph m, true)) := hid (by simp [isLitF, ho, hi])
    have hm : 0 ≤ m ∧ m ≤ 1000000 := by simpa [inB] using hi
    have HK := hid (v.core.phok ho)
    clear hv
    go_enter Tryd.func6, Tryd.ntmps6
    go_wp2_with (first | (go_at_call 10; refine (i_IsLight v _ ho _ (HV.out.alloc _)).mono ?_; (rintro e w' ⟨rfl, gx, rfl⟩)) | (go_at_call 18; refine (i_isMoment _ _ hi _).mono ?_; (rintro e w' ⟨rfl, rfl⟩)) | (go_at_call 19; refine (i_isLit v HK.out _ (by omega) (by omega) _ ((HV.out.alloc _).plus _)).mono ?_; (rintro e w' ⟨rfl, gx, rfl⟩)))
    go_ret2
    exact ⟨ret_bb (by rw [HF.out]) (by rw [HF.out]), by (repeat (first | with_reducible exact grew_refl _ | with_reducible assumption | with_reducible refine grew_split ?_ | with_reducible refine grew_mk ?_ | with_reducible refine grew_plus ?_ | with_reducible refine grew_alloc ?_ | with_reducible refine grew_drew ?_ | (with_reducible refine grew_set ?_ (by first | exact Nat.le_refl _ | omega | (simp [go_sem]; done) | (simp [go_sem]; omega)))))⟩

def periodF (v : LightC) : Int × Bool := if v.ok then ((per v.ph : Int), true) else (0, false)
set_option maxHeartbeats 1000000 in
theorem s_PeriodOf (v : LightV) (w : World) (hv : v.At w) :
    Calls Tryd.prog 9 #[v.val] w fun e w' => e = .returned (.tuple #[.int .i64 (periodF v.core).1, .bool (periodF v.core).2]) ∧ ∃ g, w' = plus w g := by
  have HV := hid hv
  cases ho : v.core.ok
  · have HF : Hid (periodF v.core = (0, false)) := hid (by simp [periodF, ho])
    clear hv
    go_enter Tryd.func9, Tryd.ntmps9
    go_wp2_with (go_at_call 20; refine (s_l24One v _ ho _ (HV.out.alloc _)).mono ?_; (rintro e w' ⟨rfl, gx, rfl⟩))
    go_ret2
    exact ⟨ret_ib (by rw [HF.out]) (by rw [HF.out]), by (repeat (first | with_reducible exact grew_refl _ | with_reducible assumption | with_reducible refine grew_split ?_ | with_reducible refine grew_mk ?_ | with_reducible refine grew_plus ?_ | with_reducible refine grew_alloc ?_ | with_reducible refine grew_drew ?_ | (with_reducible refine grew_set ?_ (by first | exact Nat.le_refl _ | omega | (simp [go_sem]; done) | (simp [go_sem]; omega)))))⟩
  · have HF : Hid (periodF v.core = ((per v.core.ph : Int), true)) := hid (by simp [periodF, ho])
    have HK := hid (v.core.phok ho)
    clear hv
    go_enter Tryd.func9, Tryd.ntmps9
    go_wp2_with (first | (go_at_call 20; refine (s_l24One v _ ho _ (HV.out.alloc _)).mono ?_; (rintro e w' ⟨rfl, gx, rfl⟩)) | (go_at_call 24; refine (s_l24Period v HK.out _ ((HV.out.alloc _).plus _)).mono ?_; (rintro e w' ⟨rfl, gx, rfl⟩)))
    go_ret2
    exact ⟨ret_ib (by rw [HF.out]) (by rw [HF.out]), by (repeat (first | with_reducible exact grew_refl _ | with_reducible assumption | with_reducible refine grew_split ?_ | with_reducible refine grew_mk ?_ | with_reducible refine grew_plus ?_ | with_reducible refine grew_alloc ?_ | with_reducible refine grew_drew ?_ | (with_reducible refine grew_set ?_ (by first | exact Nat.le_refl _ | omega | (simp [go_sem]; done) | (simp [go_sem]; omega)))))⟩
set_option maxHeartbeats 1000000 in
theorem i_PeriodOf (v : LightV) (w : World) (hv : v.At w) :
    Calls Tryd.prog 8 #[v.val] w fun e w' => e = .returned (.tuple #[.int .i64 (periodF v.core).1, .bool (periodF v.core).2]) ∧ ∃ g, w' = plus w g := by
  have HV := hid hv
  cases ho : v.core.ok
  · have HF : Hid (periodF v.core = (0, false)) := hid (by simp [periodF, ho])
    clear hv
    go_enter Tryd.func8, Tryd.ntmps8
    go_wp2_with (go_at_call 10; refine (i_IsLight v _ ho _ (HV.out.alloc _)).mono ?_; (rintro e w' ⟨rfl, gx, rfl⟩))
    go_ret2
    exact ⟨ret_ib (by rw [HF.out]) (by rw [HF.out]), by (repeat (first | with_reducible exact grew_refl _ | with_reducible assumption | with_reducible refine grew_split ?_ | with_reducible refine grew_mk ?_ | with_reducible refine grew_plus ?_ | with_reducible refine grew_alloc ?_ | with_reducible refine grew_drew ?_ | (with_reducible refine grew_set ?_ (by first | exact Nat.le_refl _ | omega | (simp [go_sem]; done) | (simp [go_sem]; omega)))))⟩
  · have HF : Hid (periodF v.core = ((per v.core.ph : Int), true)) := hid (by simp [periodF, ho])
    have HK := hid (v.core.phok ho)
    clear hv
    go_enter Tryd.func8, Tryd.ntmps8
    go_wp2_with (first | (go_at_call 10; refine (i_IsLight v _ ho _ (HV.out.alloc _)).mono ?_; (rintro e w' ⟨rfl, gx, rfl⟩)) | (go_at_call 23; refine (i_periodOf v HK.out _ ((HV.out.alloc _).plus _)).mono ?_; (rintro e w' ⟨rfl, gx, rfl⟩)))
    go_ret2
    exact ⟨ret_ib (by rw [HF.out]) (by rw [HF.out]), by (repeat (first | with_reducible exact grew_refl _ | with_reducible assumption | with_reducible refine grew_split ?_ | with_reducible refine grew_mk ?_ | with_reducible refine grew_plus ?_ | with_reducible refine grew_alloc ?_ | with_reducible refine grew_drew ?_ | (with_reducible refine grew_set ?_ (by first | exact Nat.le_refl _ | omega | (simp [go_sem]; done) | (simp [go_sem]; omega)))))⟩
def lshareF (v : LightC) : Nat × Nat × Bool := if v.ok then (litTo v.ph v.ph.length / Nat.gcd (litTo v.ph v.ph.length) (per v.ph), per v.ph / Nat.gcd (litTo v.ph v.ph.length) (per v.ph), true) else (0, 0, false)
set_option maxHeartbeats 1000000 in
theorem s_LitShare (v : LightV) (w : World) (hv : v.At w) :
    Calls Tryd.prog 12 #[v.val] w fun e w' => e = .returned (.tuple #[.int .i64 (lshareF v.core).1, .int .i64 (lshareF v.core).2.1, .bool (lshareF v.core).2.2]) ∧ ∃ g, w' = plus w g := by
  have HV := hid hv
  cases ho : v.core.ok
  · have HF : Hid (lshareF v.core = (0, 0, false)) := hid (by simp [lshareF, ho])
    clear hv
    go_enter Tryd.func12, Tryd.ntmps12
    go_wp2_with (go_at_call 20; refine (s_l24One v _ ho _ (HV.out.alloc _)).mono ?_; (rintro e w' ⟨rfl, gx, rfl⟩))
    go_ret3
    exact ⟨ret_iib (by rw [HF.out]; rfl) (by rw [HF.out]; rfl) (by rw [HF.out]), by (repeat (first | with_reducible exact grew_refl _ | with_reducible assumption | with_reducible refine grew_split ?_ | with_reducible refine grew_mk ?_ | with_reducible refine grew_plus ?_ | with_reducible refine grew_alloc ?_ | with_reducible refine grew_drew ?_ | (with_reducible refine grew_set ?_ (by first | exact Nat.le_refl _ | omega | (simp [go_sem]; done) | (simp [go_sem]; omega)))))⟩
  · have HF : Hid (lshareF v.core = (litTo v.core.ph v.core.ph.length / Nat.gcd (litTo v.core.ph v.core.ph.length) (per v.core.ph), per v.core.ph / Nat.gcd (litTo v.core.ph v.core.ph.length) (per v.core.ph), true)) := hid (by simp [lshareF, ho])
    have HK := hid (v.core.phok ho)
    obtain ⟨p1, p2⟩ := HK.out.per
    have p3 := (HK.out.bound _ (Nat.le_refl _)).1
    have p4 : perTo v.core.ph v.core.ph.length = per v.core.ph := rfl
    rw [p4] at p3
    clear hv p4
    go_enter Tryd.func12, Tryd.ntmps12
    go_wp2_with (first | (go_at_call 20; refine (s_l24One v _ ho _ (HV.out.alloc _)).mono ?_; (rintro e w' ⟨rfl, gx, rfl⟩)) | (go_at_call 24; refine (s_l24Period v HK.out _ ((HV.out.alloc _).plus _)).mono ?_; (rintro e w' ⟨rfl, gx, rfl⟩)) | (go_at_call 29; refine (s_l2Reduce _ _ _ (by omega) (by omega) (by omega)).mono ?_; (rintro e w' ⟨rfl, gx, rfl⟩)))
    go_ret3
    exact ⟨ret_iib (by rw [HF.out]; exact (Int.natCast_ediv _ _).symm) (by rw [HF.out]; exact (Int.natCast_ediv _ _).symm) (by rw [HF.out]), by (repeat (first | with_reducible exact grew_refl _ | with_reducible assumption | with_reducible refine grew_split ?_ | with_reducible refine grew_mk ?_ | with_reducible refine grew_plus ?_ | with_reducible refine grew_alloc ?_ | with_reducible refine grew_drew ?_ | (with_reducible refine grew_set ?_ (by first | exact Nat.le_refl _ | omega | (simp [go_sem]; done) | (simp [go_sem]; omega)))))⟩
set_option maxHeartbeats 1000000 in
theorem i_LitShare (v : LightV) (w : World) (hv : v.At w) :
    Calls Tryd.prog 11 #[v.val] w fun e w' => e = .returned (.tuple #[.int .i64 (lshareF v.core).1, .int .i64 (lshareF v.core).2.1, .bool (lshareF v.core).2.2]) ∧ ∃ g, w' = plus w g := by
  have HV := hid hv
  cases ho : v.core.ok
  · have HF : Hid (lshareF v.core = (0, 0, false)) := hid (by simp [lshareF, ho])
    clear hv
    go_enter Tryd.func11, Tryd.ntmps11
    go_wp2_with (go_at_call 10; refine (i_IsLight v _ ho _ (HV.out.alloc _)).mono ?_; (rintro e w' ⟨rfl, gx, rfl⟩))
    go_ret3
    exact ⟨ret_iib (by rw [HF.out]; rfl) (by rw [HF.out]; rfl) (by rw [HF.out]), by (repeat (first | with_reducible exact grew_refl _ | with_reducible assumption | with_reducible refine grew_split ?_ | with_reducible refine grew_mk ?_ | with_reducible refine grew_plus ?_ | with_reducible refine grew_alloc ?_ | with_reducible refine grew_drew ?_ | (with_reducible refine grew_set ?_ (by first | exact Nat.le_refl _ | omega | (simp [go_sem]; done) | (simp [go_sem]; omega)))))⟩
  · have HF : Hid (lshareF v.core = (litTo v.core.ph v.core.ph.length / Nat.gcd (litTo v.core.ph v.core.ph.length) (per v.core.ph), per v.core.ph / Nat.gcd (litTo v.core.ph v.core.ph.length) (per v.core.ph), true)) := hid (by simp [lshareF, ho])
    have HK := hid (v.core.phok ho)
    obtain ⟨p1, p2⟩ := HK.out.per
    have p3 := (HK.out.bound _ (Nat.le_refl _)).1
    have p4 : perTo v.core.ph v.core.ph.length = per v.core.ph := rfl
    rw [p4] at p3
    clear hv p4
    go_enter Tryd.func11, Tryd.ntmps11
    go_wp2_with (go_at_call 10; refine (i_IsLight v _ ho _ (HV.out.alloc _)).mono ?_; (rintro e w' ⟨rfl, gx, rfl⟩))
    have hp := HV.out.ph
    obtain ⟨⟨id, nm, x, y, rg, ph⟩, A, c⟩ := v
    simp only at hp HK p1 p2 p3 HF ⊢
    have hl1 := HK.out.1
    have hl2 := HK.out.2.1
    go_loopw [5, 16, 7] (fun a i _ wr => ∃ k : Nat, k ≤ ph.length ∧ i = .int .i64 k ∧ a = .int .i64 (litTo ph k) ∧ (∃ g, wr = plus (w.alloc (.cells #[.int .i64 id, .string nm, .int .i64 x, .int .i64 y, .int .i64 rg, .slice A ph.length c] 28)) g)) (fun _ i _ _ => ph.length - (intOf i).toNat)
    case atStart => exact ⟨0, Nat.zero_le _, rfl, rfl, by (repeat (first | with_reducible exact grew_refl _ | with_reducible assumption | with_reducible refine grew_split ?_ | with_reducible refine grew_mk ?_ | with_reducible refine grew_plus ?_ | with_reducible refine grew_alloc ?_ | with_reducible refine grew_drew ?_ | (with_reducible refine grew_set ?_ (by first | exact Nat.le_refl _ | omega | (simp [go_sem]; done) | (simp [go_sem]; omega)))))⟩
    case round =>
      obtain ⟨k, hk, rfl, rfl, g, rfl⟩ := hrel
      have hB := HK.out.bound k hk
      by_cases hlt : k < ph.length
      · obtain ⟨b, off, rfl, hb, hc⟩ := hp.at_ hlt
        obtain ⟨hc0, hc1⟩ := cells2 hc hlt
        have ht := HK.out.2.2 k hlt
        have h2 := hid (litTo_succ hlt)
        clear hc hp
        go_wp2
        all_goals
          go_roundw
          case rel => exact ⟨k + 1, by omega, by go_num, by rw [h2.out]; first | (rw [if_pos (by assumption)]; go_num) | (rw [if_neg (by grind)]; rfl), by (repeat (first | with_reducible exact grew_refl _ | with_reducible assumption | with_reducible refine grew_split ?_ | with_reducible refine grew_mk ?_ | with_reducible refine grew_plus ?_ | with_reducible refine grew_alloc ?_ | with_reducible refine grew_drew ?_ | (with_reducible refine grew_set ?_ (by first | exact Nat.le_refl _ | omega | (simp [go_sem]; done) | (simp [go_sem]; omega)))))⟩
          case measure => simp [intOf]; omega
      · obtain rfl : k = ph.length := by omega
        clear hp
        go_wp2_with (first | (go_at_call 23; refine (i_periodOf ⟨⟨id, nm, x, y, rg, ph⟩, A, c⟩ HK.out _ ((HV.out.alloc _).plus _)).mono ?_; (rintro e w' ⟨rfl, gx, rfl⟩)) | (go_at_call 28; refine (i_lowestTerms _ _ _ (by omega) (by omega) (by omega)).mono ?_; (rintro e w' ⟨rfl, gx, rfl⟩)))
        go_ret3
        exact ⟨ret_iib (by rw [HF.out]; exact (Int.natCast_ediv _ _).symm) (by rw [HF.out]; exact (Int.natCast_ediv _ _).symm) (by rw [HF.out]), by (repeat (first | with_reducible exact grew_refl _ | with_reducible assumption | with_reducible refine grew_split ?_ | with_reducible refine grew_mk ?_ | with_reducible refine grew_plus ?_ | with_reducible refine grew_alloc ?_ | with_reducible refine grew_drew ?_ | (with_reducible refine grew_set ?_ (by first | exact Nat.le_refl _ | omega | (simp [go_sem]; done) | (simp [go_sem]; omega)))))⟩
end Go.Proofs.YtjlaidjogladaaaDoor
