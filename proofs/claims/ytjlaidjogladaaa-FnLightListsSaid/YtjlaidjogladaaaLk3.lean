/- Which lights are seen from a spot, in both packages. -/
import Derived.Test.YtjlaidjogladaaaLi3
import Derived.Test.YtjlaidjogladaaaLi6
import Derived.Test.YtjlaidjogladaaaM1
namespace Go.Proofs.Ytjlaidjogladaaa
open Go.RowKit

theorem sq1 {d : Int} (h : -1000 ≤ d) (h' : d ≤ 1000) : 0 ≤ d * d ∧ d * d ≤ 1000000 := by
  rcases Int.le_total 0 d with h0 | h0
  · exact ⟨Int.mul_nonneg h0 h0, Int.le_trans (Int.mul_le_mul h' h' h0 (by omega)) (by omega)⟩
  · rw [← Int.neg_mul_neg]
    exact ⟨Int.mul_nonneg (by omega) (by omega), Int.le_trans (Int.mul_le_mul (show -d ≤ 1000 by omega) (show -d ≤ 1000 by omega) (by omega) (by omega)) (by omega)⟩
theorem sqr {d : Int} (h : 1 ≤ d) (h' : d ≤ 1500) : 0 ≤ d * d ∧ d * d ≤ 2250000 :=
  ⟨Int.mul_nonneg (by omega) (by omega), Int.le_trans (Int.mul_le_mul h' h' (by omega) (by omega)) (by omega)⟩
def sqI (a b x y : Int) : Int := (a - x) * (a - x) + (b - y) * (b - y)
theorem LightC.pos {v : LightC} (h : v.ok = true) : 0 ≤ v.x ∧ v.x ≤ 1000 ∧ 0 ≤ v.y ∧ v.y ≤ 1000 ∧ 1 ≤ v.range ∧ v.range ≤ 1500 := by
  simp only [LightC.ok, inB, Bool.and_eq_true, decide_eq_true_eq] at h
  omega
theorem lights_okS {L : List LightV} (h : lightsB L = true) {k : Nat} (hk : k < L.length) : L[k].core.ok = true := by
  simp only [lightsB, Bool.and_eq_true] at h
  have := allUpto_iff.1 h.1 k hk
  simp only [ltStep, hk, ↓reduceDIte, Bool.and_eq_true] at this
  exact this.1.1
theorem lights_lenS {L : List LightV} (h : lightsB L = true) : L.length ≤ 10 := by
  simp only [lightsB, Bool.and_eq_true, decide_eq_true_eq] at h
  exact h.2
def seenP (x y : Int) (v : LightC) : Bool := decide (sqI v.x v.y x y ≤ v.range * v.range)
def whereTo (p : LightC → Bool) (L : List LightV) : Nat → List Int
  | 0 => []
  | k + 1 => if h : k < L.length then (if p L[k].core then whereTo p L k ++ [L[k].core.id] else whereTo p L k) else whereTo p L k
theorem whereTo_len (p : LightC → Bool) (L : List LightV) : ∀ k, (whereTo p L k).length ≤ k := by
  intro k
  induction k with
  | zero => simp [whereTo]
  | succ k ih => simp only [whereTo]; split <;> (try split) <;> (try simp) <;> omega
theorem whereTo_yes {p : LightC → Bool} {L : List LightV} {k : Nat} (hk : k < L.length) (h : p L[k].core = true) : whereTo p L (k + 1) = whereTo p L k ++ [L[k].core.id] := by simp [whereTo, hk, h]
theorem whereTo_no {p : LightC → Bool} {L : List LightV} {k : Nat} (hk : k < L.length) (h : p L[k].core = false) : whereTo p L (k + 1) = whereTo p L k := by simp [whereTo, hk, h]
theorem Alike.whereTo {L M : List LightV} (h : Alike L M) (p : LightC → Bool) : ∀ k, whereTo p L k = Go.Proofs.Ytjlaidjogladaaa.whereTo p M k := by
  intro k
  induction k with
  | zero => rfl
  | succ k ih =>
    by_cases hi : k < L.length
    · have hi' : k < M.length := by have := h.1; omega
      simp only [Go.Proofs.Ytjlaidjogladaaa.whereTo, hi, hi', ↓reduceDIte, h.2 k hi hi', ih]
    · have hi' : ¬ k < M.length := by have := h.1; omega
      simp only [Go.Proofs.Ytjlaidjogladaaa.whereTo, hi, hi', ↓reduceDIte, ih]
def whereF (p : LightC → Bool) (q : Bool) (L : List LightV) : List Int × Bool := if lightsB L && q then (whereTo p L L.length, true) else ([], false)
theorem Alike.whereF {L M : List LightV} (h : Alike L M) (p : LightC → Bool) (q : Bool) : whereF p q L = Go.Proofs.Ytjlaidjogladaaa.whereF p q M := by
  simp only [Go.Proofs.Ytjlaidjogladaaa.whereF, h.good, h.whereTo, h.1]
theorem whereF_len {p : LightC → Bool} {q : Bool} {L : List LightV} {R : List Int} {o : Bool} (h : whereF p q L = (R, o)) : R.length ≤ 10 := by
  unfold whereF at h
  split at h
  · rename_i hg
    simp only [Bool.and_eq_true] at hg
    injection h with h1 h2
    subst h1
    exact Nat.le_trans (whereTo_len _ _ _) (lights_lenS hg.1)
  · injection h with h1 h2; subst h1; simp
def spotB (x y : Int) : Bool := inB x 0 1000 && inB y 0 1000
theorem spotB_in {x y : Int} (h : spotB x y = true) : 0 ≤ x ∧ x ≤ 1000 ∧ 0 ≤ y ∧ y ≤ 1000 := by
  simp only [spotB, inB, Bool.and_eq_true, decide_eq_true_eq] at h
  omega
theorem ret_sbS {A : Option Addr} {n m c : Nat} {a b : Bool} (h : n = m) (h' : a = b) : Ending.returned (.tuple #[.slice A n c, .bool a]) = .returned (.tuple #[.slice A m c, .bool b]) := by rw [h, h']
theorem vslS {A : Option Addr} {n m c : Nat} (h : n = m) : Value.slice A n c = Value.slice A m c := by rw [h]
set_option maxHeartbeats 400000 in
theorem i_squareOf (a b x y : Int) (h1 : 0 ≤ a ∧ a ≤ 1000) (h2 : 0 ≤ b ∧ b ≤ 1000) (h3 : 0 ≤ x ∧ x ≤ 1000) (h4 : 0 ≤ y ∧ y ≤ 1000) (w : World) :
    Calls Try.prog 36 #[.agg #[.int .i64 a, .int .i64 b], .agg #[.int .i64 x, .int .i64 y]] w fun e w' => e = .returned (.int .i64 (sqI a b x y)) ∧ ∃ g, w' = plus w g := by
  obtain ⟨p0, p1⟩ := sq1 (d := a - x) (by omega) (by omega)
  obtain ⟨q0, q1⟩ := sq1 (d := b - y) (by omega) (by omega)
  obtain ⟨a0, a1⟩ := h1
  obtain ⟨b0, b1⟩ := h2
  obtain ⟨x0, x1⟩ := h3
  obtain ⟨y0, y1⟩ := h4
  go_enter Try.func36, Try.ntmps36
  go_wp2_with fail
  first | go_ret | ((refine wp_region_calm (by kernel_rfl) (by kernel_rfl) ?_; (repeat' (first | go_big_quiet_step (fail) | (refine wpQuiet_step (fun K hK => ?_); go_simp; go_ite <;> go_simp <;> (first | (refine hK _ ?_; clear hK K) | (apply Exists.intro; refine ⟨fun _ => ?_, hK _ ?_⟩; (fail); clear hK K))))); all_goals (refine wpQuiet_nil ?_; intro _ hw'; obtain ⟨gq, hw''⟩ := hw'; subst hw'')); go_wp2_with fail; go_ret)
  exact ⟨ret_int rfl, by (repeat (first | with_reducible exact grew_refl _ | with_reducible assumption | with_reducible refine grew_split ?_ | with_reducible refine grew_mk ?_ | with_reducible refine grew_plus ?_ | with_reducible refine grew_alloc ?_ | with_reducible refine grew_drew ?_ | (with_reducible refine grew_set ?_ (by first | exact Nat.le_refl _ | omega | (simp [go_sem]; done) | (simp [go_sem]; omega)))))⟩
set_option maxHeartbeats 400000 in
theorem s_l17Square (a b x y : Int) (h1 : 0 ≤ a ∧ a ≤ 1000) (h2 : 0 ≤ b ∧ b ≤ 1000) (h3 : 0 ≤ x ∧ x ≤ 1000) (h4 : 0 ≤ y ∧ y ≤ 1000) (w : World) :
    Calls Try.prog 33 #[.agg #[.int .i64 a, .int .i64 b], .agg #[.int .i64 x, .int .i64 y]] w fun e w' => e = .returned (.int .i64 (sqI a b x y)) ∧ ∃ g, w' = plus w g := by
  obtain ⟨p0, p1⟩ := sq1 (d := a - x) (by omega) (by omega)
  obtain ⟨q0, q1⟩ := sq1 (d := b - y) (by omega) (by omega)
  obtain ⟨a0, a1⟩ := h1
  obtain ⟨b0, b1⟩ := h2
  obtain ⟨x0, x1⟩ := h3
  obtain ⟨y0, y1⟩ := h4
  go_enter Try.func33, Try.ntmps33
  go_wp2_with fail
  first | go_ret | ((refine wp_region_calm (by kernel_rfl) (by kernel_rfl) ?_; (repeat' (first | go_big_quiet_step (fail) | (refine wpQuiet_step (fun K hK => ?_); go_simp; go_ite <;> go_simp <;> (first | (refine hK _ ?_; clear hK K) | (apply Exists.intro; refine ⟨fun _ => ?_, hK _ ?_⟩; (fail); clear hK K))))); all_goals (refine wpQuiet_nil ?_; intro _ hw'; obtain ⟨gq, hw''⟩ := hw'; subst hw'')); go_wp2_with fail; go_ret)
  exact ⟨ret_int rfl, by (repeat (first | with_reducible exact grew_refl _ | with_reducible assumption | with_reducible refine grew_split ?_ | with_reducible refine grew_mk ?_ | with_reducible refine grew_plus ?_ | with_reducible refine grew_alloc ?_ | with_reducible refine grew_drew ?_ | (with_reducible refine grew_set ?_ (by first | exact Nat.le_refl _ | omega | (simp [go_sem]; done) | (simp [go_sem]; omega)))))⟩
set_option maxHeartbeats 400000 in
theorem i_isSeen (v : LightV) (x y : Int) (hok : v.core.ok = true) (hs : spotB x y = true) (q : Bool) (hq : seenP x y v.core = q) (w : World) :
    Calls Try.prog 50 #[v.val, .agg #[.int .i64 x, .int .i64 y]] w fun e w' => e = .returned (.bool q) ∧ ∃ g, w' = plus w g := by
  subst hq
  obtain ⟨a0, a1, b0, b1, r0, r1⟩ := LightC.pos hok
  obtain ⟨x0, x1, y0, y1⟩ := spotB_in hs
  obtain ⟨s0, s1⟩ := sqr r0 r1
  obtain ⟨⟨id, nm, vx, vy, rg, ph⟩, A, c⟩ := v
  simp only at a0 a1 b0 b1 r0 r1 s0 s1
  clear hok hs
  go_enter Try.func50, Try.ntmps50
  go_wp2_with fail
  (refine wp_region_calm (by kernel_rfl) (by kernel_rfl) ?_; (repeat' (first | go_big_quiet_step ((go_at_call 36; first | exact calm_of (i_squareOf _ _ _ _ ⟨a0, a1⟩ ⟨b0, b1⟩ ⟨x0, x1⟩ ⟨y0, y1⟩ _) | exact calm_add (i_squareOf _ _ _ _ ⟨a0, a1⟩ ⟨b0, b1⟩ ⟨x0, x1⟩ ⟨y0, y1⟩ _))) | (refine wpQuiet_step (fun K hK => ?_); go_simp; go_ite <;> go_simp <;> (first | (refine hK _ ?_; clear hK K) | (apply Exists.intro; refine ⟨fun _ => ?_, hK _ ?_⟩; ((go_at_call 36; first | exact calm_of (i_squareOf _ _ _ _ ⟨a0, a1⟩ ⟨b0, b1⟩ ⟨x0, x1⟩ ⟨y0, y1⟩ _) | exact calm_add (i_squareOf _ _ _ _ ⟨a0, a1⟩ ⟨b0, b1⟩ ⟨x0, x1⟩ ⟨y0, y1⟩ _))); clear hK K))))); all_goals (refine wpQuiet_nil ?_; intro _ hw'; obtain ⟨gq, hw''⟩ := hw'; subst hw''))
  go_wp2_with fail
  go_ret
  exact ⟨rfl, by (repeat (first | with_reducible exact grew_refl _ | with_reducible assumption | with_reducible refine grew_split ?_ | with_reducible refine grew_mk ?_ | with_reducible refine grew_plus ?_ | with_reducible refine grew_alloc ?_ | with_reducible refine grew_drew ?_ | (with_reducible refine grew_set ?_ (by first | exact Nat.le_refl _ | omega | (simp [go_sem]; done) | (simp [go_sem]; omega)))))⟩
set_option maxHeartbeats 400000 in
theorem s_l24Seen (v : LightV) (x y : Int) (hok : v.core.ok = true) (hs : spotB x y = true) (q : Bool) (hq : seenP x y v.core = q) (w : World) :
    Calls Try.prog 54 #[v.val, .agg #[.int .i64 x, .int .i64 y]] w fun e w' => e = .returned (.bool q) ∧ ∃ g, w' = plus w g := by
  subst hq
  obtain ⟨a0, a1, b0, b1, r0, r1⟩ := LightC.pos hok
  obtain ⟨x0, x1, y0, y1⟩ := spotB_in hs
  obtain ⟨s0, s1⟩ := sqr r0 r1
  obtain ⟨⟨id, nm, vx, vy, rg, ph⟩, A, c⟩ := v
  simp only at a0 a1 b0 b1 r0 r1 s0 s1
  clear hok hs
  go_enter Try.func54, Try.ntmps54
  go_wp2_with fail
  (refine wp_region_calm (by kernel_rfl) (by kernel_rfl) ?_; (repeat' (first | go_big_quiet_step ((go_at_call 33; first | exact calm_of (s_l17Square _ _ _ _ ⟨a0, a1⟩ ⟨b0, b1⟩ ⟨x0, x1⟩ ⟨y0, y1⟩ _) | exact calm_add (s_l17Square _ _ _ _ ⟨a0, a1⟩ ⟨b0, b1⟩ ⟨x0, x1⟩ ⟨y0, y1⟩ _))) | (refine wpQuiet_step (fun K hK => ?_); go_simp; go_ite <;> go_simp <;> (first | (refine hK _ ?_; clear hK K) | (apply Exists.intro; refine ⟨fun _ => ?_, hK _ ?_⟩; ((go_at_call 33; first | exact calm_of (s_l17Square _ _ _ _ ⟨a0, a1⟩ ⟨b0, b1⟩ ⟨x0, x1⟩ ⟨y0, y1⟩ _) | exact calm_add (s_l17Square _ _ _ _ ⟨a0, a1⟩ ⟨b0, b1⟩ ⟨x0, x1⟩ ⟨y0, y1⟩ _))); clear hK K))))); all_goals (refine wpQuiet_nil ?_; intro _ hw'; obtain ⟨gq, hw''⟩ := hw'; subst hw''))
  go_wp2_with fail
  go_ret
  exact ⟨rfl, by (repeat (first | with_reducible exact grew_refl _ | with_reducible assumption | with_reducible refine grew_split ?_ | with_reducible refine grew_mk ?_ | with_reducible refine grew_plus ?_ | with_reducible refine grew_alloc ?_ | with_reducible refine grew_drew ?_ | (with_reducible refine grew_set ?_ (by first | exact Nat.le_refl _ | omega | (simp [go_sem]; done) | (simp [go_sem]; omega)))))⟩
set_option maxHeartbeats 400000 in
theorem i_SeenFrom1 (u : LightV) (x y : Int) (b : Nat) (w : World) (hb : b < w.heap.size) (hc0 : w.cell? ⟨b, 0, none⟩ = some (.int .i64 x)) (hc1 : w.cell? ⟨b, 1, none⟩ = some (.int .i64 y)) (hok : u.core.ok = true) (hs : spotB x y = true) :
    Calls Try.prog 56 #[u.val, .pointer (some ⟨b, 0, none⟩)] w fun e' w' => e' = .returned (.bool (seenP x y u.core)) ∧ ∃ g, w' = plus w g := by
  go_enter Try.func56, Try.ntmps56
  go_wp2_with fail
  refine (i_isSeen u x y hok hs _ rfl _).mono ?_
  (rintro e w' ⟨rfl, gx, rfl⟩)
  go_wp2_with fail
  go_ret
  exact ⟨rfl, by (repeat (first | with_reducible exact grew_refl _ | with_reducible assumption | with_reducible refine grew_split ?_ | with_reducible refine grew_mk ?_ | with_reducible refine grew_plus ?_ | with_reducible refine grew_alloc ?_ | with_reducible refine grew_drew ?_ | (with_reducible refine grew_set ?_ (by first | exact Nat.le_refl _ | omega | (simp [go_sem]; done) | (simp [go_sem]; omega)))))⟩
set_option maxHeartbeats 2000000 in
theorem i_whereSeen (L : List LightV) (A : Option Addr) (c : Nat) (x y : Int) (b : Nat) (w : World) (hA : Lts w A L) (hg_ : lightsB L = true) (hs : spotB x y = true) (hb : b < w.heap.size) (hc0 : w.cell? ⟨b, 0, none⟩ = some (.int .i64 x)) (hc1 : w.cell? ⟨b, 1, none⟩ = some (.int .i64 y)) :
    Calls Try.prog 48 #[.slice A L.length c, .func (.func 56) #[] #[.pointer (some ⟨b, 0, none⟩)]] w fun e' w' => (∃ A' c', e' = .returned (.slice A' (whereTo (seenP x y) L L.length).length c') ∧ Own w.heap.size 3 1 intRow w' A' c' (whereTo (seenP x y) L L.length)) ∧ ∃ g, w' = plus w g := by
  have hl := lights_lenS hg_
  have HS := hid hA.sl
  have HOK := hid hg_
  clear hg_ hA
  go_enter Try.func48, Try.ntmps48
  go_wp2_with fail
  go_loopw [5, 11] (fun a i wr => ∃ (k : Nat) (A' : Option Addr) (c' : Nat), k ≤ L.length ∧ i = .int .i64 k ∧ a = .slice A' (whereTo (seenP x y) L k).length c' ∧ Own w.heap.size 3 1 intRow wr A' c' (whereTo (seenP x y) L k) ∧ (∃ g, wr = plus w g)) (fun _ i _ => L.length - (intOf i).toNat)
  case atStart => exact ⟨0, _, _, Nat.zero_le _, rfl, rfl, Own.newIn (by (repeat (first | with_reducible exact grew_refl _ | with_reducible assumption | with_reducible refine grew_split ?_ | with_reducible refine grew_mk ?_ | with_reducible refine grew_plus ?_ | with_reducible refine grew_alloc ?_ | with_reducible refine grew_drew ?_ | (with_reducible refine grew_set ?_ (by first | exact Nat.le_refl _ | omega | (simp [go_sem]; done) | (simp [go_sem]; omega)))))) rfl (by simp [go_sem]) (by simp [go_sem]), by (repeat (first | with_reducible exact grew_refl _ | with_reducible assumption | with_reducible refine grew_split ?_ | with_reducible refine grew_mk ?_ | with_reducible refine grew_plus ?_ | with_reducible refine grew_alloc ?_ | with_reducible refine grew_drew ?_ | (with_reducible refine grew_set ?_ (by first | exact Nat.le_refl _ | omega | (simp [go_sem]; done) | (simp [go_sem]; omega)))))⟩
  case round =>
    obtain ⟨k, A', c', hk, rfl, rfl, hO, g, rfl⟩ := hrel
    have HO := hid hO
    clear hO
    by_cases hlt : k < L.length
    · obtain ⟨b', off, rfl, hb', hcl⟩ := HS.out.at_ hlt
      obtain ⟨hd0, hd1, hd2, hd3, hd4, hd5⟩ := lt6 hcl hlt
      have HK := hid (lights_okS HOK.out hlt)
      have hln := whereTo_len (seenP x y) L k
      clear hcl
      cases hp : seenP x y L[k].core
      · have HT := hid (whereTo_no hlt hp)
        go_wp2_with (go_at_call 56; refine (i_SeenFrom1 L[k] x y b _ (by simp [go_sem]; omega) (by simp [go_sem, hb, hc0]) (by simp [go_sem, hb, hc1]) HK.out hs).mono ?_; (rintro e w' ⟨rfl, gx, rfl⟩))
        go_roundw
        case rel => exact ⟨k + 1, _, _, by omega, by go_num, vslS (by rw [HT.out]), by rw [HT.out]; exact HO.out.grew (by (repeat (first | with_reducible exact grew_refl _ | with_reducible assumption | with_reducible refine grew_split ?_ | with_reducible refine grew_mk ?_ | with_reducible refine grew_plus ?_ | with_reducible refine grew_alloc ?_ | with_reducible refine grew_drew ?_ | (with_reducible refine grew_set ?_ (by first | exact Nat.le_refl _ | omega | (simp [go_sem]; done) | (simp [go_sem]; omega)))))), by (repeat (first | with_reducible exact grew_refl _ | with_reducible assumption | with_reducible refine grew_split ?_ | with_reducible refine grew_mk ?_ | with_reducible refine grew_plus ?_ | with_reducible refine grew_alloc ?_ | with_reducible refine grew_drew ?_ | (with_reducible refine grew_set ?_ (by first | exact Nat.le_refl _ | omega | (simp [go_sem]; done) | (simp [go_sem]; omega)))))⟩
        case measure => simp [intOf]; omega
      · have HT := hid (whereTo_yes hlt hp)
        go_wp2_with (first | (go_at_call 56; refine (i_SeenFrom1 L[k] x y b _ (by simp [go_sem]; omega) (by simp [go_sem, hb, hc0]) (by simp [go_sem, hb, hc1]) HK.out hs).mono ?_; (rintro e w' ⟨rfl, gx, rfl⟩)) | (at_builtin; go_loud (refine wpList_app rfl _ _ _ rfl 3 1 8 _ Try.underlying40 int_info rfl (by omega) (by omega) _ _ _ rfl (HO.out.grew (by (repeat (first | with_reducible exact grew_refl _ | with_reducible assumption | with_reducible refine grew_split ?_ | with_reducible refine grew_mk ?_ | with_reducible refine grew_plus ?_ | with_reducible refine grew_alloc ?_ | with_reducible refine grew_drew ?_ | (with_reducible refine grew_set ?_ (by first | exact Nat.le_refl _ | omega | (simp [go_sem]; done) | (simp [go_sem]; omega))))))) (by (repeat (first | with_reducible exact grew_refl _ | with_reducible assumption | with_reducible refine grew_split ?_ | with_reducible refine grew_mk ?_ | with_reducible refine grew_plus ?_ | with_reducible refine grew_alloc ?_ | with_reducible refine grew_drew ?_ | (with_reducible refine grew_set ?_ (by first | exact Nat.le_refl _ | omega | (simp [go_sem]; done) | (simp [go_sem]; omega)))))) (by omega) _ L[k].core.id _ rfl rfl (by intro j u hj; match j, hj with | 0, hj => simp [intRow] at hj; subst hj; simp [Addr.add, go_sem]) (by simp [intRow, Value.oneCell']) ?_); intro A1 c1 g1 HO1))
        go_roundw
        case rel => exact ⟨k + 1, _, _, by omega, by go_num, vslS (by rw [HT.out]; simp), by rw [HT.out]; exact HO1.grew (by (repeat (first | with_reducible exact grew_refl _ | with_reducible assumption | with_reducible refine grew_split ?_ | with_reducible refine grew_mk ?_ | with_reducible refine grew_plus ?_ | with_reducible refine grew_alloc ?_ | with_reducible refine grew_drew ?_ | (with_reducible refine grew_set ?_ (by first | exact Nat.le_refl _ | omega | (simp [go_sem]; done) | (simp [go_sem]; omega)))))), by (repeat (first | with_reducible exact grew_refl _ | with_reducible assumption | with_reducible refine grew_split ?_ | with_reducible refine grew_mk ?_ | with_reducible refine grew_plus ?_ | with_reducible refine grew_alloc ?_ | with_reducible refine grew_drew ?_ | (with_reducible refine grew_set ?_ (by first | exact Nat.le_refl _ | omega | (simp [go_sem]; done) | (simp [go_sem]; omega)))))⟩
        case measure => simp [intOf]; omega
    · obtain rfl : k = L.length := by omega
      go_wp2
      go_ret
      exact ⟨⟨A', c', rfl, HO.out.grew (by (repeat (first | with_reducible exact grew_refl _ | with_reducible assumption | with_reducible refine grew_split ?_ | with_reducible refine grew_mk ?_ | with_reducible refine grew_plus ?_ | with_reducible refine grew_alloc ?_ | with_reducible refine grew_drew ?_ | (with_reducible refine grew_set ?_ (by first | exact Nat.le_refl _ | omega | (simp [go_sem]; done) | (simp [go_sem]; omega))))))⟩, by (repeat (first | with_reducible exact grew_refl _ | with_reducible assumption | with_reducible refine grew_split ?_ | with_reducible refine grew_mk ?_ | with_reducible refine grew_plus ?_ | with_reducible refine grew_alloc ?_ | with_reducible refine grew_drew ?_ | (with_reducible refine grew_set ?_ (by first | exact Nat.le_refl _ | omega | (simp [go_sem]; done) | (simp [go_sem]; omega)))))⟩
set_option maxHeartbeats 2000000 in
theorem i_SeenFrom (L : List LightV) (A : Option Addr) (c : Nat) (x y : Int) (R : List Int) (o : Bool) (hR : whereF (seenP x y) (spotB x y) L = (R, o)) (w : World) (hA : Lts w A L) (hl : L.length ≤ maxLen) (hcap : L.length ≤ c) :
    Calls Try.prog 19 #[.slice A L.length c, .agg #[.int .i64 x, .int .i64 y]] w fun e w' => (∃ A' c', e = .returned (.tuple #[.slice A' R.length c', .bool o]) ∧ OwnF w.heap.size 3 1 intRow w' A' R) ∧ ∃ g, w' = plus w g := by
  have HV := hid hA
  clear hA
  cases hg_ : lightsB L && spotB x y
  · have hF : whereF (seenP x y) (spotB x y) L = ([], false) := by simp only [whereF, hg_]; rfl
    rw [hF] at hR
    injection hR with h1 h2
    subst h1 h2
    cases hg1 : lightsB L
    · go_enter Try.func19, Try.ntmps19
      go_wp2_with (first | (go_at_call 27; refine (i_AreLts L A c _ hg1 _ (HV.out.grew (by (repeat (first | with_reducible exact grew_refl _ | with_reducible assumption | with_reducible refine grew_split ?_ | with_reducible refine grew_mk ?_ | with_reducible refine grew_plus ?_ | with_reducible refine grew_alloc ?_ | with_reducible refine grew_drew ?_ | (with_reducible refine grew_set ?_ (by first | exact Nat.le_refl _ | omega | (simp [go_sem]; done) | (simp [go_sem]; omega))))))) hl hcap).mono ?_; (rintro e w' ⟨rfl, gx, rfl⟩)) | (go_at_call 46; refine (i_IsSpot x y _ rfl _).mono ?_; (rintro e w' ⟨rfl, gx, rfl⟩)))
      go_ret2
      exact ⟨⟨none, 0, rfl, .inl rfl⟩, by (repeat (first | with_reducible exact grew_refl _ | with_reducible assumption | with_reducible refine grew_split ?_ | with_reducible refine grew_mk ?_ | with_reducible refine grew_plus ?_ | with_reducible refine grew_alloc ?_ | with_reducible refine grew_drew ?_ | (with_reducible refine grew_set ?_ (by first | exact Nat.le_refl _ | omega | (simp [go_sem]; done) | (simp [go_sem]; omega)))))⟩
    · have hg2 : (inB x 0 1000 && inB y 0 1000) = false := by rw [hg1, Bool.true_and] at hg_; exact hg_
      have HG2 := hid hg2
      clear hg2 hg_
      go_enter Try.func19, Try.ntmps19
      go_wp2_with (first | (go_at_call 27; refine (i_AreLts L A c _ hg1 _ (HV.out.grew (by (repeat (first | with_reducible exact grew_refl _ | with_reducible assumption | with_reducible refine grew_split ?_ | with_reducible refine grew_mk ?_ | with_reducible refine grew_plus ?_ | with_reducible refine grew_alloc ?_ | with_reducible refine grew_drew ?_ | (with_reducible refine grew_set ?_ (by first | exact Nat.le_refl _ | omega | (simp [go_sem]; done) | (simp [go_sem]; omega))))))) hl hcap).mono ?_; (rintro e w' ⟨rfl, gx, rfl⟩)) | (go_at_call 46; refine (i_IsSpot x y _ HG2.out _).mono ?_; (rintro e w' ⟨rfl, gx, rfl⟩)))
      go_ret2
      exact ⟨⟨none, 0, rfl, .inl rfl⟩, by (repeat (first | with_reducible exact grew_refl _ | with_reducible assumption | with_reducible refine grew_split ?_ | with_reducible refine grew_mk ?_ | with_reducible refine grew_plus ?_ | with_reducible refine grew_alloc ?_ | with_reducible refine grew_drew ?_ | (with_reducible refine grew_set ?_ (by first | exact Nat.le_refl _ | omega | (simp [go_sem]; done) | (simp [go_sem]; omega)))))⟩
  · have hF : whereF (seenP x y) (spotB x y) L = (whereTo (seenP x y) L L.length, true) := by simp only [whereF, hg_]; rfl
    rw [hF] at hR
    injection hR with h1 h2
    subst h1 h2
    simp only [Bool.and_eq_true] at hg_
    have HG1 := hid hg_.1
    have HG2 := hid hg_.2
    clear hg_ hF
    go_enter Try.func19, Try.ntmps19
    go_wp2_with (first | (go_at_call 27; refine (i_AreLts L A c _ HG1.out _ (HV.out.grew (by (repeat (first | with_reducible exact grew_refl _ | with_reducible assumption | with_reducible refine grew_split ?_ | with_reducible refine grew_mk ?_ | with_reducible refine grew_plus ?_ | with_reducible refine grew_alloc ?_ | with_reducible refine grew_drew ?_ | (with_reducible refine grew_set ?_ (by first | exact Nat.le_refl _ | omega | (simp [go_sem]; done) | (simp [go_sem]; omega))))))) hl hcap).mono ?_; (rintro e w' ⟨rfl, gx, rfl⟩)) | (go_at_call 46; refine (i_IsSpot x y _ HG2.out _).mono ?_; (rintro e w' ⟨rfl, gx, rfl⟩)))
    refine (i_whereSeen L A c x y _ _ (HV.out.grew (by (repeat (first | with_reducible exact grew_refl _ | with_reducible assumption | with_reducible refine grew_split ?_ | with_reducible refine grew_mk ?_ | with_reducible refine grew_plus ?_ | with_reducible refine grew_alloc ?_ | with_reducible refine grew_drew ?_ | (with_reducible refine grew_set ?_ (by first | exact Nat.le_refl _ | omega | (simp [go_sem]; done) | (simp [go_sem]; omega))))))) HG1.out HG2.out (by simp [go_sem]) (by simp [go_sem]) (by simp [go_sem])).mono ?_
    rintro e w' ⟨⟨A', c', rfl, hO⟩, gx, rfl⟩
    (try rw [plus_plus] at hO)
    have hO2 : OwnF w.heap.size 3 1 intRow _ A' (whereTo (seenP x y) L L.length) := (hO.f intRow_len).less (by first | (simp [go_sem]; done) | (simp [go_sem]; omega) | omega)
    have HO := hid hO2
    clear hO hO2
    go_wp2_with fail
    go_ret2
    exact ⟨⟨A', c', rfl, HO.out.grew (by (repeat (first | with_reducible exact grew_refl _ | with_reducible assumption | with_reducible refine grew_split ?_ | with_reducible refine grew_mk ?_ | with_reducible refine grew_plus ?_ | with_reducible refine grew_alloc ?_ | with_reducible refine grew_drew ?_ | (with_reducible refine grew_set ?_ (by first | exact Nat.le_refl _ | omega | (simp [go_sem]; done) | (simp [go_sem]; omega))))))⟩, by (repeat (first | with_reducible exact grew_refl _ | with_reducible assumption | with_reducible refine grew_split ?_ | with_reducible refine grew_mk ?_ | with_reducible refine grew_plus ?_ | with_reducible refine grew_alloc ?_ | with_reducible refine grew_drew ?_ | (with_reducible refine grew_set ?_ (by first | exact Nat.le_refl _ | omega | (simp [go_sem]; done) | (simp [go_sem]; omega)))))⟩
end Go.Proofs.Ytjlaidjogladaaa
