/- Lights: their values, which are good, periods; the laws' conversions of phases and lights. Conditions: lengths that an int holds. -/
import Derived.Test.YtjlaidjogladaaaDoorL1
import Derived.Test.YtjlaidjogladaaaDoorMem
namespace Go.Proofs.YtjlaidjogladaaaDoor
open Go.RowKit

structure PhaseR where
  lit : Bool
  tenths : Int
def PhaseR.row (p : PhaseR) : List Value := [.bool p.lit, .int .i64 p.tenths]
structure LightC where
  id : Int
  nm : ByteArray
  x : Int
  y : Int
  range : Int
  ph : List PhaseR
structure LightV where
  core : LightC
  A : Option Addr
  c : Nat
def LightV.row (v : LightV) : List Value := [.int .i64 v.core.id, .string v.core.nm, .int .i64 v.core.x, .int .i64 v.core.y, .int .i64 v.core.range, .slice v.A v.core.ph.length v.c]
abbrev LightV.val (v : LightV) : Value := .agg #[.int .i64 v.core.id, .string v.core.nm, .int .i64 v.core.x, .int .i64 v.core.y, .int .i64 v.core.range, .slice v.A v.core.ph.length v.c]
/-- The light's phases lie in memory as they should. -/
structure LightV.At (w : World) (v : LightV) : Prop where
  ph : Sl w 2 PhaseR.row v.A v.core.ph
  nm : v.core.nm.size ≤ maxLen
  len : v.core.ph.length ≤ maxLen
theorem LightV.At.grew {w w' : World} {v : LightV} (h : v.At w) (hg : ∃ g, w' = Go.Proofs.YtjlaidjogladaaaDoor.plus w g) : v.At w' := ⟨h.ph.grew hg, h.nm, h.len⟩
theorem LightV.At.plus {w : World} {v : LightV} (h : v.At w) (g : Ext) : v.At (Go.Proofs.YtjlaidjogladaaaDoor.plus w g) := ⟨h.ph.plus g, h.nm, h.len⟩
theorem LightV.At.add {w : World} {v : LightV} {g : Ext} (h : v.At (Go.Proofs.YtjlaidjogladaaaDoor.plus w g)) (x : Ext) : v.At (Go.Proofs.YtjlaidjogladaaaDoor.plus w (g.add x)) := ⟨h.ph.add x, h.nm, h.len⟩
theorem LightV.At.alloc {w : World} {v : LightV} (h : v.At w) (o : Obj) : v.At (w.alloc o) := ⟨h.ph.alloc o, h.nm, h.len⟩
def phStep (l : List PhaseR) (i : Nat) : Bool := if h : i < l.length then (l[i].lit == ((i : Int) % 2 == 0)) && inB l[i].tenths 1 200 else true
def LightC.ok (v : LightC) : Bool :=
  inB v.id 1 999 && wordB v.nm && (inB v.x 0 1000 && inB v.y 0 1000) && inB v.range 1 1500 && inB v.ph.length 2 8 && ((v.ph.length : Int) % 2 == 0) && allUpto (phStep v.ph) v.ph.length
theorem LightC.no {v : LightC} {k : Nat} (hk : k < v.ph.length) (h : phStep v.ph k = false) : v.ok = false := by
  rw [LightC.ok, allUpto_no hk h]; simp
theorem cells2 {w : World} {b off : Nat} {l : List PhaseR} (hc : ∀ i (hi : i < l.length) j u, (PhaseR.row l[i])[j]? = some u → w.cell? ⟨b, off + i * 2 + j, none⟩ = some u) {k : Nat} (hk : k < l.length) :
    w.cell? ⟨b, off + k * 2, none⟩ = some (.bool l[k].lit) ∧ w.cell? ⟨b, off + k * 2 + 1, none⟩ = some (.int .i64 l[k].tenths) :=
  ⟨hc k hk 0 _ rfl, hc k hk 1 _ rfl⟩

set_option maxHeartbeats 400000 in
theorem s_l2Grid (n : Int) (o : Bool) (ho : inB n 0 1000 = o) (w : World) :
    Calls Tryd.prog 45 #[.int .i64 n] w fun e w' => e = .returned (.bool o) ∧ w = w' := by
  go_enter Tryd.func45, Tryd.ntmps45
  go_wp2_with (go_at_call 37; refine (s_l1In _ _ _ _ ho _).mono ?_; (rintro e w' ⟨rfl, rfl⟩))
  go_ret
  exact ⟨rfl, rfl⟩
set_option maxHeartbeats 400000 in
theorem s_l2Spot (x y : Int) (o : Bool) (ho : (inB x 0 1000 && inB y 0 1000) = o) (w : World) :
    Calls Tryd.prog 39 #[.agg #[.int .i64 x, .int .i64 y]] w fun e w' => e = .returned (.bool o) ∧ ∃ g, w' = plus w g := by
  subst ho
  go_enter Tryd.func39, Tryd.ntmps39
  go_wp2_with (go_at_call 45; refine (s_l2Grid _ _ rfl _).mono ?_; (rintro e w' ⟨rfl, rfl⟩))
  all_goals
    go_ret
    exact ⟨ret_bool (by grind), by (repeat (first | with_reducible exact grew_refl _ | with_reducible assumption | with_reducible refine grew_split ?_ | with_reducible refine grew_mk ?_ | with_reducible refine grew_plus ?_ | with_reducible refine grew_alloc ?_ | with_reducible refine grew_drew ?_ | (with_reducible refine grew_set ?_ (by first | exact Nat.le_refl _ | omega | (simp [go_sem]; done) | (simp [go_sem]; omega)))))⟩
set_option maxHeartbeats 400000 in
theorem i_IsSpot (x y : Int) (o : Bool) (ho : (inB x 0 1000 && inB y 0 1000) = o) (w : World) :
    Calls Tryd.prog 27 #[.agg #[.int .i64 x, .int .i64 y]] w fun e w' => e = .returned (.bool o) ∧ ∃ g, w' = plus w g := by
  subst ho
  go_enter Tryd.func27, Tryd.ntmps27
  go_wp2_with (go_at_call 25; refine (i_inside _ _ _ _ rfl _).mono ?_; (rintro e w' ⟨rfl, rfl⟩))
  all_goals
    go_ret
    exact ⟨ret_bool (by grind), by (repeat (first | with_reducible exact grew_refl _ | with_reducible assumption | with_reducible refine grew_split ?_ | with_reducible refine grew_mk ?_ | with_reducible refine grew_plus ?_ | with_reducible refine grew_alloc ?_ | with_reducible refine grew_drew ?_ | (with_reducible refine grew_set ?_ (by first | exact Nat.le_refl _ | omega | (simp [go_sem]; done) | (simp [go_sem]; omega)))))⟩
set_option maxHeartbeats 1000000 in
theorem s_l24One (v : LightV) (o : Bool) (ho : v.core.ok = o) (w : World) (hv : v.At w) :
    Calls Tryd.prog 20 #[v.val] w fun e w' => e = .returned (.bool o) ∧ ∃ g, w' = plus w g := by
  subst ho
  obtain ⟨⟨id, nm, x, y, rg, ph⟩, A, c⟩ := v
  have HN := hid hv.nm
  have hl := hv.len
  have hp := hv.ph
  simp only at hl hp HN
  unfold maxLen at hl
  clear hv
  have HO : ∀ k, k < ph.length → phStep ph k = false → LightC.ok ⟨id, nm, x, y, rg, ph⟩ = false := fun k h1 h2 => LightC.no (v := ⟨id, nm, x, y, rg, ph⟩) h1 h2
  have HOK := hid HO
  clear HO
  go_enter Tryd.func20, Tryd.ntmps20
  go_wp2_with fail
  go_loopw [4] (fun i wr => ∃ k : Nat, k ≤ ph.length ∧ i = .int .i64 k ∧ allUpto (phStep ph) k = true ∧ (∃ g, wr = plus (w.alloc _) g)) (fun i _ => ph.length - (intOf i).toNat)
  case atStart => exact ⟨0, Nat.zero_le _, rfl, rfl, by (repeat (first | with_reducible exact grew_refl _ | with_reducible assumption | with_reducible refine grew_split ?_ | with_reducible refine grew_mk ?_ | with_reducible refine grew_plus ?_ | with_reducible refine grew_alloc ?_ | with_reducible refine grew_drew ?_ | (with_reducible refine grew_set ?_ (by first | exact Nat.le_refl _ | omega | (simp [go_sem]; done) | (simp [go_sem]; omega)))))⟩
  case round =>
    obtain ⟨k, hk, rfl, h0, g, rfl⟩ := hrel
    have H0 := hid h0
    clear h0
    by_cases hlt : k < ph.length
    · obtain ⟨b, off, rfl, hb, hc⟩ := hp.at_ hlt
      obtain ⟨hc0, hc1⟩ := cells2 hc hlt
      have HF : Hid (phStep ph k = ((ph[k].lit == ((k : Int) % 2 == 0)) && inB ph[k].tenths 1 200)) := hid (by simp [phStep, hlt])
      clear hc hp
      go_wp2_with (go_at_call 37; refine (s_l1In _ _ _ _ rfl _).mono ?_; (rintro e w' ⟨rfl, rfl⟩))
      all_goals first
        | (go_roundw
           case rel => exact ⟨k + 1, by omega, by go_num, allUpto_step H0.out (by rw [HF.out]; grind), by (repeat (first | with_reducible exact grew_refl _ | with_reducible assumption | with_reducible refine grew_split ?_ | with_reducible refine grew_mk ?_ | with_reducible refine grew_plus ?_ | with_reducible refine grew_alloc ?_ | with_reducible refine grew_drew ?_ | (with_reducible refine grew_set ?_ (by first | exact Nat.le_refl _ | omega | (simp [go_sem]; done) | (simp [go_sem]; omega)))))⟩
           case measure => simp [intOf]; omega)
        | (go_ret
           exact ⟨ret_bool (HOK.out k hlt (by rw [HF.out]; grind)).symm, by (repeat (first | with_reducible exact grew_refl _ | with_reducible assumption | with_reducible refine grew_split ?_ | with_reducible refine grew_mk ?_ | with_reducible refine grew_plus ?_ | with_reducible refine grew_alloc ?_ | with_reducible refine grew_drew ?_ | (with_reducible refine grew_set ?_ (by first | exact Nat.le_refl _ | omega | (simp [go_sem]; done) | (simp [go_sem]; omega)))))⟩)
    · obtain rfl : k = ph.length := by omega
      clear hp
      go_wp2_with (first
        | (go_at_call 37; refine (s_l1In _ _ _ _ rfl _).mono ?_; (rintro e w' ⟨rfl, rfl⟩))
        | (go_at_call 38; refine (s_l2Word _ _ rfl _ HN.out).mono ?_; (rintro e w' ⟨rfl, rfl⟩))
        | (go_at_call 39; refine (s_l2Spot _ _ _ rfl _).mono ?_; (rintro e w' ⟨rfl, gx, rfl⟩)))
      all_goals
        go_ret
        exact ⟨ret_bool (by simp only [LightC.ok, H0.out]; grind), by (repeat (first | with_reducible exact grew_refl _ | with_reducible assumption | with_reducible refine grew_split ?_ | with_reducible refine grew_mk ?_ | with_reducible refine grew_plus ?_ | with_reducible refine grew_alloc ?_ | with_reducible refine grew_drew ?_ | (with_reducible refine grew_set ?_ (by first | exact Nat.le_refl _ | omega | (simp [go_sem]; done) | (simp [go_sem]; omega)))))⟩
set_option maxHeartbeats 1000000 in
theorem i_IsLight (v : LightV) (o : Bool) (ho : v.core.ok = o) (w : World) (hv : v.At w) :
    Calls Tryd.prog 10 #[v.val] w fun e w' => e = .returned (.bool o) ∧ ∃ g, w' = plus w g := by
  subst ho
  obtain ⟨⟨id, nm, x, y, rg, ph⟩, A, c⟩ := v
  have HN := hid hv.nm
  have hl := hv.len
  have hp := hv.ph
  simp only at hl hp HN
  unfold maxLen at hl
  clear hv
  have HO : ∀ k, k < ph.length → phStep ph k = false → LightC.ok ⟨id, nm, x, y, rg, ph⟩ = false := fun k h1 h2 => LightC.no (v := ⟨id, nm, x, y, rg, ph⟩) h1 h2
  have HOK := hid HO
  clear HO
  cases hh : (inB id 1 999 && wordB nm && (inB x 0 1000 && inB y 0 1000) && inB rg 1 1500 && inB ph.length 2 8 && ((ph.length : Int) % 2 == 0))
  · have HH : Hid (LightC.ok ⟨id, nm, x, y, rg, ph⟩ = false) := hid (by simp only [LightC.ok]; rw [hh]; rfl)
    have HD := hid hh
    have HP := hid hp
    clear hh hp
    go_enter Tryd.func10, Tryd.ntmps10
    go_wp2_with (first
        | (go_at_call 25; refine (i_inside _ _ _ _ rfl _).mono ?_; (rintro e w' ⟨rfl, rfl⟩))
        | (go_at_call 26; refine (i_isWord _ _ rfl _ HN.out).mono ?_; (rintro e w' ⟨rfl, rfl⟩))
        | (go_at_call 27; refine (i_IsSpot _ _ _ rfl _).mono ?_; (rintro e w' ⟨rfl, gx, rfl⟩)))
    all_goals first
      | (go_ret
         exact ⟨ret_bool HH.out.symm, by (repeat (first | with_reducible exact grew_refl _ | with_reducible assumption | with_reducible refine grew_split ?_ | with_reducible refine grew_mk ?_ | with_reducible refine grew_plus ?_ | with_reducible refine grew_alloc ?_ | with_reducible refine grew_drew ?_ | (with_reducible refine grew_set ?_ (by first | exact Nat.le_refl _ | omega | (simp [go_sem]; done) | (simp [go_sem]; omega)))))⟩)
      | (exfalso; have := HD.out; grind)
  simp only [Bool.and_eq_true] at hh
  obtain ⟨⟨⟨⟨⟨h1, h2⟩, h3, h3'⟩, h4⟩, h5⟩, h6⟩ := hh
  have h7 : ((ph.length : Int) % 2 == 1) = false := by simp at h6 ⊢; omega
  have HH := hid (And.intro h1 (And.intro h2 (And.intro h3 (And.intro h3' (And.intro h4 (And.intro h5 h6))))))
  clear h6
  have h33 : (inB x 0 1000 && inB y 0 1000) = true := by rw [h3, h3']; rfl
  go_enter Tryd.func10, Tryd.ntmps10
  go_wp2_with (first
        | (go_at_call 25; refine (i_inside _ _ _ _ rfl _).mono ?_; (rintro e w' ⟨rfl, rfl⟩))
        | (go_at_call 26; refine (i_isWord _ _ rfl _ HN.out).mono ?_; (rintro e w' ⟨rfl, rfl⟩))
        | (go_at_call 27; refine (i_IsSpot _ _ _ h33 _).mono ?_; (rintro e w' ⟨rfl, gx, rfl⟩)))
  clear h1 h2 h3 h3' h4 h5 h7 h33
  go_loopw [44, 3, 4] (fun i _ _ wr => ∃ k : Nat, k ≤ ph.length ∧ i = .int .i64 k ∧ allUpto (phStep ph) k = true ∧ (∃ g, wr = plus w g)) (fun i _ _ _ => ph.length - (intOf i).toNat)
  case atStart => exact ⟨0, Nat.zero_le _, rfl, rfl, by (repeat (first | with_reducible exact grew_refl _ | with_reducible assumption | with_reducible refine grew_split ?_ | with_reducible refine grew_mk ?_ | with_reducible refine grew_plus ?_ | with_reducible refine grew_alloc ?_ | with_reducible refine grew_drew ?_ | (with_reducible refine grew_set ?_ (by first | exact Nat.le_refl _ | omega | (simp [go_sem]; done) | (simp [go_sem]; omega)))))⟩
  case round =>
    obtain ⟨k, hk, rfl, h0, g, rfl⟩ := hrel
    have H0 := hid h0
    clear h0
    by_cases hlt : k < ph.length
    · obtain ⟨b, off, rfl, hb, hc⟩ := hp.at_ hlt
      obtain ⟨hc0, hc1⟩ := cells2 hc hlt
      have HF : Hid (phStep ph k = ((ph[k].lit == ((k : Int) % 2 == 0)) && inB ph[k].tenths 1 200)) := hid (by simp [phStep, hlt])
      clear hc hp
      go_wp2_with (go_at_call 25; refine (i_inside _ _ _ _ rfl _).mono ?_; (rintro e w' ⟨rfl, rfl⟩))
      all_goals first
        | (go_roundw
           case rel => exact ⟨k + 1, by omega, by go_num, allUpto_step H0.out (by rw [HF.out]; grind), by (repeat (first | with_reducible exact grew_refl _ | with_reducible assumption | with_reducible refine grew_split ?_ | with_reducible refine grew_mk ?_ | with_reducible refine grew_plus ?_ | with_reducible refine grew_alloc ?_ | with_reducible refine grew_drew ?_ | (with_reducible refine grew_set ?_ (by first | exact Nat.le_refl _ | omega | (simp [go_sem]; done) | (simp [go_sem]; omega)))))⟩
           case measure => simp [intOf]; omega)
        | (go_ret
           exact ⟨ret_bool (HOK.out k hlt (by rw [HF.out]; grind)).symm, by (repeat (first | with_reducible exact grew_refl _ | with_reducible assumption | with_reducible refine grew_split ?_ | with_reducible refine grew_mk ?_ | with_reducible refine grew_plus ?_ | with_reducible refine grew_alloc ?_ | with_reducible refine grew_drew ?_ | (with_reducible refine grew_set ?_ (by first | exact Nat.le_refl _ | omega | (simp [go_sem]; done) | (simp [go_sem]; omega)))))⟩)
    · obtain rfl : k = ph.length := by omega
      clear hp
      go_wp2_with fail
      go_ret
      exact ⟨ret_bool (by simp only [LightC.ok, H0.out]; have := HH.out; grind), by (repeat (first | with_reducible exact grew_refl _ | with_reducible assumption | with_reducible refine grew_split ?_ | with_reducible refine grew_mk ?_ | with_reducible refine grew_plus ?_ | with_reducible refine grew_alloc ?_ | with_reducible refine grew_drew ?_ | (with_reducible refine grew_set ?_ (by first | exact Nat.le_refl _ | omega | (simp [go_sem]; done) | (simp [go_sem]; omega)))))⟩
end Go.Proofs.YtjlaidjogladaaaDoor
