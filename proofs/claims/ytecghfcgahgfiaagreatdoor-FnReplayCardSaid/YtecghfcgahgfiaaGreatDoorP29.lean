import Derived.Test.YtecghfcgahgfiaaGreatDoorP3
import Derived.Test.YtecghfcgahgfiaaGreatDoorP10
import Derived.Deep.Cut
import Derived.Laws.IdiomStrings
import Derived.Test.YtecghfcgahgfiaaGreatDoorP5
import Derived.Test.YtecghfcgahgfiaaGreatDoorP1
import Derived.Test.YtecghfcgahgfiaaGreatDoorProg
import Derived.Test.YtecghfcgahgfiaaGreatDoorP9
/- Logs that are joined, cut and spoilt: what is read of them. No program in sight. -/
namespace Go.Proofs.YtecghfcgahgfiaaGreatDoor
open Go.RowKit

theorem headB_more {s t : Bytes} {k : Nat} {e : RecR} {n : Nat} (h : headB s k = some (e, n)) : headB (s ++ t) k = some (e, n) := by
  obtain ⟨h1, h2, h3, h4⟩ := headB_some h
  have : s ++ t = e.line k ++ 10 :: (s.drop n ++ t) := by
    conv => lhs; rw [h4]
    simp
  rw [this, headB_line h2 h1, h3]
theorem opens_nil (f k : Nat) : opens f [] k = [] := by
  cases f with
  | zero => rfl
  | succ f =>
    have : headB [] k = none := by unfold headB; simp [cutB]
    rw [opens_succ_none this]
/-- A text behind records throughout. -/
theorem opens_join : ∀ (f : Nat) (s t : Bytes) (k : Nat), endOf (opens f s k) = s.length → opens f (s ++ t) k = opens f s k ++ opens (f - (opens f s k).length) t (k + (opens f s k).length) := by
  intro f
  induction f with
  | zero =>
    intro s t k h
    simp [opens]
  | succ f ih =>
    intro s t k h
    cases hh : headB s k with
    | none =>
      rw [opens_succ_none hh] at h ⊢
      rw [endOf_nil] at h
      have : s = [] := List.eq_nil_of_length_eq_zero h.symm
      subst this
      simp
    | some p =>
      obtain ⟨e, n⟩ := p
      obtain ⟨hn0, hn1, _⟩ := headB_lt hh
      rw [opens_succ_some hh] at h ⊢
      rw [endOf_cons] at h
      simp only at h
      rw [opens_succ_some (headB_more hh), List.drop_append_of_le_length hn1, ih (s.drop n) t (k + 1) (by rw [List.length_drop]; omega)]
      simp only [List.length_cons, List.cons_append]
      rw [show f + 1 - ((opens f (s.drop n) (k + 1)).length + 1) = f - (opens f (s.drop n) (k + 1)).length by omega, show k + ((opens f (s.drop n) (k + 1)).length + 1) = k + 1 + (opens f (s.drop n) (k + 1)).length by omega]
/-- What is read of the part that has been read. -/
theorem opens_part : ∀ (f : Nat) (s : Bytes) (k : Nat), opens f (s.take (endOf (opens f s k))) k = opens f s k := by
  intro f
  induction f with
  | zero => intro s k; rfl
  | succ f ih =>
    intro s k
    cases hh : headB s k with
    | none => rw [opens_succ_none hh, endOf_nil, List.take_zero, opens_nil]
    | some p =>
      obtain ⟨e, n⟩ := p
      obtain ⟨hn0, hn1, _⟩ := headB_lt hh
      obtain ⟨h1, h2, h3, h4⟩ := headB_some hh
      have hE := opens_end f (s.drop n) (k + 1)
      rw [opens_succ_some hh, endOf_cons]
      simp only
      have hl : (e.line k ++ [10]).length = n := by simp; omega
      have hg : ∀ E : Nat, s.take (n + E) = e.line k ++ 10 :: (s.drop n).take E := by
        intro E
        have : s = (e.line k ++ [10]) ++ s.drop n := by
          conv => lhs; rw [h4]
          simp
        generalize s.drop n = t at this
        rw [this, List.take_append, List.take_of_length_le (by omega), hl, Nat.add_sub_cancel_left]
        simp
      have hs := hg (endOf (opens f (s.drop n) (k + 1)))
      have hd : (e.line k ++ 10 :: (s.drop n).take (endOf (opens f (s.drop n) (k + 1)))).drop n = (s.drop n).take (endOf (opens f (s.drop n) (k + 1))) := by
        rw [h3]; exact drop_line rfl
      rw [hs, opens_succ_some (headB_line h2 h1 _), ← h3, hd, ih (s.drop n) (k + 1)]
/-- A text of which less is there, and of which the last byte may be spoilt. -/
def Spoilt (p q : Bytes) : Prop := q.length ≤ p.length ∧ ∀ i (h : i < q.length), (i + 1 < q.length ∨ q[i] = 10) → q[i]? = p[i]?
theorem Spoilt.head {p q : Bytes} {k : Nat} {e : RecR} {n : Nat} (h : Spoilt p q) (hh : headB q k = some (e, n)) : headB p k = some (e, n) ∧ Spoilt (p.drop n) (q.drop n) := by
  obtain ⟨h1, h2, h3, h4⟩ := headB_some hh
  obtain ⟨hn0, hn1, _⟩ := headB_lt hh
  have hq : ∀ i, i < n → q[i]? = (e.line k ++ [10])[i]? := by
    intro i hi
    rw [h4]
    have : e.line k ++ 10 :: q.drop n = (e.line k ++ [10]) ++ q.drop n := by simp
    rw [this, List.getElem?_append_left (by simp; omega)]
  have hlast : q[n - 1]? = some 10 := by
    rw [hq (n - 1) (by omega), List.getElem?_append_right (by omega)]
    rw [h3]; simp
  have hp : ∀ i, i < n → p[i]? = (e.line k ++ [10])[i]? := by
    intro i hi
    rw [← hq i hi]
    refine (h.2 i (by omega) ?_).symm
    by_cases hi2 : i + 1 < q.length
    · exact .inl hi2
    · right
      have : i = n - 1 := by omega
      subst this
      have := (List.getElem?_eq_some_iff.1 hlast).2
      exact this
  have hl : (e.line k ++ [10]).length = n := by simp; omega
  have hpt : p = (e.line k ++ [10]) ++ p.drop n := by
    have h5 : p.take n = e.line k ++ [10] := by
      apply List.ext_getElem?
      intro i
      by_cases hi : i < n
      · rw [List.getElem?_take, if_pos hi]; exact hp i hi
      · rw [List.getElem?_take, if_neg hi, List.getElem?_eq_none (by omega)]
    rw [← h5, List.take_append_drop]
  refine ⟨?_, ?_, fun i hi hc => ?_⟩
  · have h6 := headB_line h2 h1 (p.drop n)
    generalize p.drop n = t at hpt h6
    rw [hpt, h3]
    simpa using h6
  · have := h.1
    simp only [List.length_drop]; omega
  · rw [List.length_drop] at hi
    rw [List.getElem?_drop, List.getElem?_drop]
    refine h.2 (n + i) (by omega) ?_
    rcases hc with hc | hc
    · rw [List.length_drop] at hc; exact .inl (by omega)
    · rw [List.getElem_drop] at hc; exact .inr hc
theorem opens_spoilt : ∀ (f : Nat) (p q : Bytes) (k : Nat), Spoilt p q → ∃ r, opens f p k = opens f q k ++ r := by
  intro f
  induction f with
  | zero => intro p q k _; exact ⟨[], rfl⟩
  | succ f ih =>
    intro p q k h
    cases hh : headB q k with
    | none => rw [opens_succ_none hh]; exact ⟨_, rfl⟩
    | some x =>
      obtain ⟨e, n⟩ := x
      obtain ⟨h1, h2⟩ := h.head hh
      obtain ⟨r, hr⟩ := ih (p.drop n) (q.drop n) (k + 1) h2
      rw [opens_succ_some hh, opens_succ_some h1, hr]
      exact ⟨r, rfl⟩
/-- The bytes of records are below 128. -/
theorem line_low {e : RecR} (h : e.ok = true) (k : Nat) : ∀ c ∈ e.line k, c.toNat < 128 := by
  obtain ⟨_, _, h1, _, h2, _⟩ := RecR.parts h
  intro c hc
  unfold RecR.line lineB textB at hc
  rcases List.mem_append.1 hc with hc | hc
  · rcases List.mem_append.1 hc with hc | hc
    · have := num_bytes k (by omega) c hc; omega
    · rcases List.mem_cons.1 hc with rfl | hc
      · decide
      · rcases List.mem_append.1 hc with hc | hc
        · have := plain_bytes h1 c hc; omega
        · rcases List.mem_cons.1 hc with rfl | hc
          · decide
          · have := plain_bytes h2 c hc; omega
  · rcases List.mem_cons.1 hc with rfl | hc
    · decide
    · have := num_bytes _ (sumL_range _).1 c hc; omega
theorem opens_low : ∀ (f : Nat) (s : Bytes) (k : Nat), endOf (opens f s k) = s.length → ∀ c ∈ s, c.toNat < 128 := by
  intro f
  induction f with
  | zero =>
    intro s k h c hc
    have : s = [] := List.eq_nil_of_length_eq_zero h.symm
    subst this; cases hc
  | succ f ih =>
    intro s k h c hc
    cases hh : headB s k with
    | none =>
      rw [opens_succ_none hh, endOf_nil] at h
      have : s = [] := List.eq_nil_of_length_eq_zero h.symm
      subst this; cases hc
    | some p =>
      obtain ⟨e, n⟩ := p
      obtain ⟨hn0, hn1, _⟩ := headB_lt hh
      obtain ⟨h1, h2, h3, h4⟩ := headB_some hh
      rw [opens_succ_some hh, endOf_cons] at h
      simp only at h
      rw [h4] at hc
      rcases List.mem_append.1 hc with hc | hc
      · exact line_low h2 k c hc
      · rcases List.mem_cons.1 hc with rfl | hc
        · decide
        · exact ih (s.drop n) (k + 1) (by rw [List.length_drop]; omega) c hc
theorem spoilt_take (p : Bytes) (m : Nat) (hm : m ≤ p.length) : Spoilt p (p.take m) := by
  refine ⟨by simp; omega, fun i hi _ => ?_⟩
  rw [List.length_take] at hi
  rw [List.getElem?_take, if_pos (by omega)]
theorem spoilt_last (p : Bytes) (m : Nat) (hm : m + 1 ≤ p.length) (c : UInt8) (hc : c ≠ 10) : Spoilt p ((p.take (m + 1)).set m c) := by
  have hl : ((p.take (m + 1)).set m c).length = m + 1 := by simp; omega
  refine ⟨by omega, fun i hi h => ?_⟩
  by_cases him : i = m
  · subst him
    rcases h with h | h
    · omega
    · rw [List.getElem_set_self] at h; exact absurd h hc
  · rw [List.getElem?_set_ne (by omega), List.getElem?_take, if_pos (by omega)]
/-- The records ahead of the cut, and those behind. -/
theorem opensF_join {s t : Bytes} (h : endOf (opensF s) = s.length) : opensF (s ++ t) = opensF s ++ opens (61 - (opensF s).length) t (opensF s).length := by
  have := opens_join 61 s t 0 h
  rwa [Nat.zero_add] at this
theorem opensF_part (s : Bytes) : opensF (s.take (endOf (opensF s))) = opensF s := opens_part 61 s 0
theorem endOf_app (a b : List (RecR × Nat)) : endOf (a ++ b) = endOf a + endOf b := by simp [endOf]
theorem opens_one {e : RecR} (h : e.ok = true) {f k : Nat} (hf : 0 < f) (hk : k < 60) : opens f (e.line k ++ [10]) k = [(e, (e.line k).length + 1)] := by
  obtain ⟨g, rfl⟩ : ∃ g, f = g + 1 := ⟨f - 1, by omega⟩
  rw [opens_succ_some (headB_line h hk []), drop_line rfl, opens_nil]
/-- The value of a numeral. -/
def valB (s : Bytes) : Nat := s.foldl (fun v c => 10 * v + (c.toNat - 48)) 0
theorem dig_val (u : Nat) : valB (Go.Lib.decDigits u) = u := by
  induction u using Nat.strongRecOn with
  | _ u ih =>
    rw [Go.Lib.decDigits]
    split
    · simp [valB]; omega
    · have h1 := ih (u / 10) (by omega)
      unfold valB at h1 ⊢
      rw [List.foldl_append, h1]
      simp; omega
theorem itoa_inj {k j : Nat} (h : Go.Lib.itoa (k : Int) = Go.Lib.itoa (j : Int)) : k = j := by
  unfold Go.Lib.itoa at h
  rw [if_neg (by omega), if_neg (by omega), Int.toNat_natCast, Int.toNat_natCast] at h
  rw [← dig_val k, h, dig_val]
/-- A record's line is read at its own place alone. -/
theorem line_place {e x : RecR} {k j : Nat} (h : e.line k = x.line j) (he : e.ok = true) (hx : x.ok = true) : k = j := by
  have h1 := congrArg (fun s => (cutB 32 (cutB 35 s).1).1) h
  simp only [cut_text he, cut_text hx, textB, cut_num] at h1
  exact itoa_inj h1
end Go.Proofs.YtecghfcgahgfiaaGreatDoor
/- What is left of a log behind a crash, in both packages. -/
namespace Go.Proofs.YtecghfcgahgfiaaGreatDoor
open Go.RowKit

/-- The bytes with the last one turned, if it is torn. -/
def turnL (t : Bytes) (torn : Bool) : Bytes := if torn then (match t[t.length - 1]? with | some c => t.set (t.length - 1) (255 - c) | none => t) else t
def crashF (l : LogR) (k : Int) (torn : Bool) : ByteArray × Bool := if l.ok && inB k 0 l.p.size then (l.d ++ mk (turnL (bl (l.p.extract 0 k.toNat)) torn), true) else (⟨#[]⟩, false)
/-- The bytes of a text lie in a block of their own, and may be written. -/
structure Byt (W : World) (b : Nat) (t : Bytes) : Prop where
  cell : ∀ j (hj : j < t.length), W.cell? ⟨b, j, none⟩ = some (.int .u8 (t[j].toNat : Int))
  free : ∀ j, j < t.length → W.frozen? ⟨b, j, none⟩ = false
theorem byt_new (W : World) (t : ByteArray) (e : TypeId) : Byt (W.drew.alloc (.cells (bytesRow t (grownCap W t.size 0 e)) e ((bytesRow t (grownCap W t.size 0 e)).size, (bytesRow t (grownCap W t.size 0 e)).size + 1))) W.heap.size (bl t) := by
  refine ⟨fun j hj => ?_, fun j hj => ?_⟩
  · have h := World.cell?_alloc_mark W.drew (bytesRow t (grownCap W t.size 0 e)) e ((bytesRow t (grownCap W t.size 0 e)).size, (bytesRow t (grownCap W t.size 0 e)).size + 1) j
    have hj' : j < t.data.size := by rw [bl_len] at hj; exact hj
    rw [bytesRow_at t _ j hj'] at h
    exact h
  · have h := World.frozen?_alloc_mark W.drew (bytesRow t (grownCap W t.size 0 e)) e (bytesRow t (grownCap W t.size 0 e)).size ((bytesRow t (grownCap W t.size 0 e)).size + 1) j
    have hlt : j < (bytesRow t (grownCap W t.size 0 e)).size := by
      rw [bl_len] at hj
      have : t.data.size = t.size := rfl
      simp [bytesRow]; omega
    rw [show decide ((bytesRow t (grownCap W t.size 0 e)).size ≤ j) = false by simp; omega] at h
    exact h
theorem Byt.grew {W W' : World} {b : Nat} {t : Bytes} (h : Byt W b t) (hb : b < W.heap.size) (hg : ∃ g, W' = plus W g) : Byt W' b t := by
  obtain ⟨g, rfl⟩ := hg
  exact ⟨fun j hj => (cell?_plus W g hb).trans (h.cell j hj), fun j hj => (frozen?_plus W g hb).trans (h.free j hj)⟩
theorem add_zero_off (b j : Nat) : (⟨b, 0, none⟩ : Addr).add j = ⟨b, j, none⟩ := by unfold Addr.add; split <;> simp_all
theorem back_conv {W : World} {b cap n : Nat} {t : Bytes} (hY : Byt W b t) (hn : t.length = n) : (convert 22 9 (.slice (some ⟨b, 0, none⟩) n cap)).run Tryz.prog W = .ok (.string (mk t)) W := by
  subst hn
  exact run_convert_bytes_back W _ _ _ ⟨b, 0, none⟩ cap t Tryz.underlying22 Tryz.underlying5 Tryz.underlying9 (fun j hj => by rw [add_zero_off]; exact hY.cell j hj)
theorem Byt.set {W : World} {b i : Nat} {t : Bytes} (h : Byt W b t) (hi : i < t.length) (c : UInt8) : Byt (W.setCell ⟨b, i, none⟩ (.int .u8 (c.toNat : Int))) b (t.set i c) := by
  refine ⟨fun j hj => ?_, fun j hj => ?_⟩
  · rw [List.length_set] at hj
    by_cases hij : i = j
    · subst hij
      rw [List.getElem_set_self]
      exact World.cell?_setCell_same _ _ _ (h.cell i hi)
    · rw [List.getElem_set_ne hij]
      rw [World.cell?_setCell_other W ⟨b, i, none⟩ ⟨b, j, none⟩ _ (by intro e; injection e with _ e2; exact hij e2)]
      exact h.cell j hj
  · rw [List.length_set] at hj
    rw [World.frozen?_setCell]
    exact h.free j hj
theorem turn_no (t : Bytes) : turnL t false = t := rfl
theorem turn_nil {t : Bytes} (h : t.length = 0) (torn : Bool) : turnL t torn = t := by
  have := List.eq_nil_of_length_eq_zero h
  subst this
  cases torn <;> rfl
theorem turn_last {t : Bytes} {q : Nat} (h : t.length = q + 1) (hq : q < t.length) : turnL t true = t.set q (255 - t[q]) := by
  unfold turnL
  have e : t[t.length - 1]? = some t[q] := by rw [h]; simp
  simp only [if_true, e]
  rw [h]; simp
theorem sub255 (c : UInt8) : ((255 - c : UInt8).toNat : Int) = 255 - (c.toNat : Int) := by
  have := c.toNat_lt
  rw [UInt8.toNat_sub_of_le _ _ (by rw [UInt8.le_iff_toNat_le]; show c.toNat ≤ 255; omega)]
  show ((255 - c.toNat : Nat) : Int) = _
  omega
set_option maxHeartbeats 2000000 in
theorem i_CrashLog (l : LogR) (k : Int) (torn : Bool) (w : World) (h1 : l.d.size ≤ 2097152) (h2 : l.p.size ≤ 2097152) (hE : Env w) :
    Calls Tryz.prog 25 #[l.val, .int .i64 k, .bool torn] w fun e' w' => e' = .returned (.tuple #[.string (crashF l k torn).1, .bool (crashF l k torn).2]) ∧ ∃ g, w' = plus w g := by
  have _HE := hid hE
  clear hE
  cases ho : l.ok
  · have HF : Hid (crashF l k torn = (⟨#[]⟩, false)) := hid (by simp [crashF, ho])
    have HO := hid ho
    clear ho
    go_enter Tryz.func25, Tryz.ntmps25
    go_wp2_with fail
    refine (i_IsValidLog _ _ HO.out _ h1 h2 (_HE.out.grew (by (repeat (first | with_reducible exact grew_refl _ | with_reducible assumption | with_reducible refine grew_split ?_ | with_reducible refine grew_mk ?_ | with_reducible refine grew_plus ?_ | with_reducible refine grew_alloc ?_ | with_reducible refine grew_drew ?_ | (with_reducible refine grew_set ?_ (by first | exact Nat.le_refl _ | omega | (simp [go_sem]; done) | (simp [go_sem]; omega)))))))).mono ?_
    (rintro e w' ⟨rfl, gx, rfl⟩)
    go_wp2_with fail
    go_ret2
    exact ⟨ret_strb (by rw [HF.out]) (by rw [HF.out]), by (repeat (first | with_reducible exact grew_refl _ | with_reducible assumption | with_reducible refine grew_split ?_ | with_reducible refine grew_mk ?_ | with_reducible refine grew_plus ?_ | with_reducible refine grew_alloc ?_ | with_reducible refine grew_drew ?_ | (with_reducible refine grew_set ?_ (by first | exact Nat.le_refl _ | omega | (simp [go_sem]; done) | (simp [go_sem]; omega)))))⟩
  cases hk : inB k 0 l.p.size
  · have HF : Hid (crashF l k torn = (⟨#[]⟩, false)) := hid (by simp [crashF, hk])
    have HO := hid ho
    have HK := hid hk
    clear ho hk
    go_enter Tryz.func25, Tryz.ntmps25
    go_wp2_with fail
    refine (i_IsValidLog _ _ HO.out _ h1 h2 (_HE.out.grew (by (repeat (first | with_reducible exact grew_refl _ | with_reducible assumption | with_reducible refine grew_split ?_ | with_reducible refine grew_mk ?_ | with_reducible refine grew_plus ?_ | with_reducible refine grew_alloc ?_ | with_reducible refine grew_drew ?_ | (with_reducible refine grew_set ?_ (by first | exact Nat.le_refl _ | omega | (simp [go_sem]; done) | (simp [go_sem]; omega)))))))).mono ?_
    (rintro e w' ⟨rfl, gx, rfl⟩)
    go_wp2_with fail
    refine (i_inside _ _ _ _ HK.out _).mono ?_
    (rintro e w' ⟨rfl, rfl⟩)
    go_wp2_with fail
    go_ret2
    exact ⟨ret_strb (by rw [HF.out]) (by rw [HF.out]), by (repeat (first | with_reducible exact grew_refl _ | with_reducible assumption | with_reducible refine grew_split ?_ | with_reducible refine grew_mk ?_ | with_reducible refine grew_plus ?_ | with_reducible refine grew_alloc ?_ | with_reducible refine grew_drew ?_ | (with_reducible refine grew_set ?_ (by first | exact Nat.le_refl _ | omega | (simp [go_sem]; done) | (simp [go_sem]; omega)))))⟩
  have HF : Hid (crashF l k torn = (l.d ++ mk (turnL (bl (l.p.extract 0 k.toNat)) torn), true)) := hid (by simp [crashF, ho, hk])
  have hb : 0 ≤ k ∧ k ≤ l.p.size := by simpa [inB] using hk
  have HO := hid ho
  have HK := hid hk
  clear ho hk
  obtain ⟨d, p, n⟩ := l
  obtain ⟨m, rfl⟩ := Int.eq_ofNat_of_zero_le hb.1
  have hm : m ≤ p.size := by have := hb.2; simp only at this; omega
  have hmi : (m : Int) ≤ (p.size : Int) := by omega
  have hm0 : (0 : Int) ≤ (m : Int) := by omega
  simp only at h1 h2
  clear hb
  obtain ⟨t, ht⟩ : ∃ t, t = p.extract 0 m := ⟨_, rfl⟩
  have htz : t.size = m := by rw [ht, ByteArray.size_extract]; omega
  have hconv : ∀ W : World, (convert 9 22 (.string (p.extract 0 m))).run Tryz.prog W = .ok (.slice (some ⟨W.heap.size, 0, none⟩) t.size (grownCap W t.size 0 5)) (W.drew.alloc (.cells (bytesRow t (grownCap W t.size 0 5)) 5 ((bytesRow t (grownCap W t.size 0 5)).size, (bytesRow t (grownCap W t.size 0 5)).size + 1))) := fun W => by
    rw [← ht]
    exact run_bytes_of_string W _ _ _ _ Tryz.underlying9 Tryz.underlying22 Tryz.underlying5
  have HTL := hid htz
  have HT0 := hid ht
  clear htz ht
  go_enter Tryz.func25, Tryz.ntmps25
  go_wp2_with fail
  refine (i_IsValidLog _ _ HO.out _ h1 h2 (_HE.out.grew (by (repeat (first | with_reducible exact grew_refl _ | with_reducible assumption | with_reducible refine grew_split ?_ | with_reducible refine grew_mk ?_ | with_reducible refine grew_plus ?_ | with_reducible refine grew_alloc ?_ | with_reducible refine grew_drew ?_ | (with_reducible refine grew_set ?_ (by first | exact Nat.le_refl _ | omega | (simp [go_sem]; done) | (simp [go_sem]; omega)))))))).mono ?_
  (rintro e w' ⟨rfl, gx, rfl⟩)
  go_wp2_with fail
  refine (i_inside _ _ _ _ HK.out _).mono ?_
  (rintro e w' ⟨rfl, rfl⟩)
  go_upto_region 3 with (fail)
  refine wp_opaq7 (fun W => Blk W w.heap.size 28 #[.string d, .string p, .int .i64 n] ∧ ∃ g, W = plus w g) ⟨blk_grew (blk_new rfl) (by (repeat (first | with_reducible exact grew_refl _ | with_reducible assumption | with_reducible refine grew_split ?_ | with_reducible refine grew_mk ?_ | with_reducible refine grew_plus ?_ | with_reducible refine grew_alloc ?_ | with_reducible refine grew_drew ?_ | (with_reducible refine grew_set ?_ (by first | exact Nat.le_refl _ | omega | (simp [go_sem]; done) | (simp [go_sem]; omega)))))), by (repeat (first | with_reducible exact grew_refl _ | with_reducible assumption | with_reducible refine grew_split ?_ | with_reducible refine grew_mk ?_ | with_reducible refine grew_plus ?_ | with_reducible refine grew_alloc ?_ | with_reducible refine grew_drew ?_ | (with_reducible refine grew_set ?_ (by first | exact Nat.le_refl _ | omega | (simp [go_sem]; done) | (simp [go_sem]; omega)))))⟩ ?_
  rintro wq ⟨hB, hg⟩
  have HB := hid hB
  have HG := hid hg
  have hlt := hB.lt
  have x0 := hB.cell 0
  have x1 := hB.cell 1
  simp at x0 x1
  have hN := byt_new wq t 5
  have HN := hid hN
  clear hB hg hN
  go_upto_region 4 with (fail)
  generalize hb : wq.heap.size = b
  generalize hcap : grownCap wq t.size 0 5 = cap at HN ⊢
  refine wp_opaq7 (fun W => Byt W b (bl t) ∧ Blk W w.heap.size 28 #[.string d, .string p, .int .i64 n] ∧ w.heap.size < b ∧ b < W.heap.size ∧ ∃ g, W = plus w g) ⟨by subst hb; exact HN.out, blk_grew HB.out (by (repeat (first | with_reducible exact grew_refl _ | with_reducible assumption | with_reducible refine grew_split ?_ | with_reducible refine grew_mk ?_ | with_reducible refine grew_plus ?_ | with_reducible refine grew_alloc ?_ | with_reducible refine grew_drew ?_ | (with_reducible refine grew_set ?_ (by first | exact Nat.le_refl _ | omega | (simp [go_sem]; done) | (simp [go_sem]; omega)))))), by subst hb; exact hlt, by subst hb; simp, by have h := HG.out; (repeat (first | with_reducible exact grew_refl _ | with_reducible assumption | with_reducible refine grew_split ?_ | with_reducible refine grew_mk ?_ | with_reducible refine grew_plus ?_ | with_reducible refine grew_alloc ?_ | with_reducible refine grew_drew ?_ | (with_reducible refine grew_set ?_ (by first | exact Nat.le_refl _ | omega | (simp [go_sem]; done) | (simp [go_sem]; omega)))))⟩ ?_
  clear hcap hb HN x0 x1 hlt hconv
  rintro wt ⟨hY, hB2, hlb, hbt, hg2⟩
  have HY := hid hY
  have HG2 := hid hg2
  have x0 := hB2.cell 0
  have x1 := hB2.cell 1
  simp at x0 x1
  clear hY hB2 hg2
  have HF2 : Hid (crashF ⟨d, p, n⟩ (m : Int) torn = (d ++ mk (turnL (bl t) torn), true)) := hid (by rw [HF.out, HT0.out]; rfl)
  clear HF
  have hsum : t.size ≤ 2097152 := by have := HTL.out; omega
  have hbl := bl_len t
  by_cases hz : torn = false ∨ m = 0
  · have hT : turnL (bl t) torn = bl t := by
      rcases hz with h | h
      · rw [h]; exact turn_no _
      · exact turn_nil (by rw [hbl, HTL.out, h]) torn
    have hback := fun cap => back_conv (cap := cap) HY.out hbl
    have HT := hid hT
    have hg2 := HG2.out
    have hsz : (mk (bl t)).size ≤ 2097152 := by rw [mk_size]; omega
    clear hT hbl
    rcases hz with rfl | rfl
    · go_wp2_with fail
      go_ret2
      exact ⟨ret_strb (by rw [HF2.out, HT.out]) (by rw [HF2.out]), by (repeat (first | with_reducible exact grew_refl _ | with_reducible assumption | with_reducible refine grew_split ?_ | with_reducible refine grew_mk ?_ | with_reducible refine grew_plus ?_ | with_reducible refine grew_alloc ?_ | with_reducible refine grew_drew ?_ | (with_reducible refine grew_set ?_ (by first | exact Nat.le_refl _ | omega | (simp [go_sem]; done) | (simp [go_sem]; omega)))))⟩
    · cases torn
      all_goals
        go_wp2_with fail
        go_ret2
        exact ⟨ret_strb (by rw [HF2.out, HT.out]) (by rw [HF2.out]), by (repeat (first | with_reducible exact grew_refl _ | with_reducible assumption | with_reducible refine grew_split ?_ | with_reducible refine grew_mk ?_ | with_reducible refine grew_plus ?_ | with_reducible refine grew_alloc ?_ | with_reducible refine grew_drew ?_ | (with_reducible refine grew_set ?_ (by first | exact Nat.le_refl _ | omega | (simp [go_sem]; done) | (simp [go_sem]; omega)))))⟩
  · have htr : torn = true := by cases torn <;> simp_all
    subst htr
    obtain ⟨q, rfl⟩ : ∃ q, m = q + 1 := ⟨m - 1, by omega⟩
    have hq : q < (bl t).length := by rw [hbl, HTL.out]; omega
    have hT := turn_last (by rw [hbl, HTL.out]) hq
    have HT := hid hT
    obtain ⟨c, hc⟩ : ∃ c, c = (bl t)[q] := ⟨_, rfl⟩
    have hcq := HY.out.cell q hq
    have hfq := HY.out.free q hq
    have hB9 := HY.out.set hq (255 - c)
    rw [sub255] at hB9
    rw [← hc] at hcq
    have hback := fun cap => back_conv (cap := cap) hB9 (by rw [List.length_set, hbl])
    have HC := hid hc
    have c1 : (c.toNat : Int) ≤ 255 := by have := c.toNat_lt; omega
    have c0 : (0 : Int) ≤ (c.toNat : Int) := by omega
    have hq1 : (q : Int) < (t.size : Int) := by rw [hbl] at hq; omega
    have hg2 := HG2.out
    have hsz : (mk ((bl t).set q (255 - c))).size ≤ 2097152 := by rw [mk_size, List.length_set]; omega
    clear hT hc hB9 hbl hz
    go_wp2_with fail
    go_ret2
    exact ⟨ret_strb (by rw [HF2.out, HT.out, HC.out]) (by rw [HF2.out]), by (repeat (first | with_reducible exact grew_refl _ | with_reducible assumption | with_reducible refine grew_split ?_ | with_reducible refine grew_mk ?_ | with_reducible refine grew_plus ?_ | with_reducible refine grew_alloc ?_ | with_reducible refine grew_drew ?_ | (with_reducible refine grew_set ?_ (by first | exact Nat.le_refl _ | omega | (simp [go_sem]; done) | (simp [go_sem]; omega)))))⟩
end Go.Proofs.YtecghfcgahgfiaaGreatDoor
/- The laws' marks on texts. -/
namespace Go.Proofs.YtecghfcgahgfiaaGreatDoor
open Go.RowKit

def markT (k : Int) : ByteArray := ⟨#[109]⟩ ++ num k
theorem markT_size (k : Int) (h0 : 0 ≤ k) (h1 : (k : Int) ≤ 1000000000000) : (markT k).size ≤ 15 := by
  have := num_size k (by omega) h1
  have h : (⟨#[109]⟩ : ByteArray).size = 1 := rfl
  simp only [markT, ByteArray.size_append, h]; omega
/-- What has been laid of a number's digits, and what is left of the number. -/
def MarkRel (k0 u : Nat) (out : ByteArray) : Prop := (u = 0 ∧ out = num k0) ∨ (0 < u ∧ num u ++ out = num k0)
theorem MarkRel.size {k0 u : Nat} {out : ByteArray} (h : MarkRel k0 u out) (hk : (k0 : Int) ≤ 1000000000000) : out.size ≤ 14 := by
  have h1 := num_size k0 (by omega) hk
  rcases h with ⟨_, rfl⟩ | ⟨_, h⟩
  · exact h1
  · have h2 := congrArg ByteArray.size h
    rw [ByteArray.size_append] at h2
    omega
theorem MarkRel.start {k : Nat} (h : 0 < k) : MarkRel k k ⟨#[]⟩ := .inr ⟨h, by apply ByteArray.ext; simp⟩
theorem MarkRel.step {k u : Nat} {out : ByteArray} (h : MarkRel k u out) (hu : 0 < u) : MarkRel k (u / 10) (⟨#[48 + UInt8.ofNat (u % 10)]⟩ ++ out) := by
  rcases h with ⟨h0, _⟩ | ⟨_, h⟩
  · omega
  have e8 : (48 + UInt8.ofNat (u % 10) : UInt8) = UInt8.ofNat (48 + u % 10) := by
    apply UInt8.toNat_inj.1
    simp
  rw [e8]
  by_cases h10 : u < 10
  · left
    refine ⟨by omega, ?_⟩
    rw [← h, num_nat, Go.Lib.decDigits_one h10, Nat.mod_eq_of_lt h10]
  · right
    refine ⟨by omega, ?_⟩
    rw [← h, num_nat, num_nat, ← ByteArray.append_assoc]
    congr 1
    conv => rhs; rw [Go.Lib.decDigits, dif_neg h10]
    exact ByteArray.mk_append_mk _ [UInt8.ofNat (48 + u % 10)]
theorem ret_str0 {a b : ByteArray} (h : a = b) : Ending.returned (.string a) = .returned (.string b) := by rw [h]
theorem back_one (W : World) (u : Nat) : (convert 22 9 (.slice (some ⟨W.heap.size, 0, none⟩) 1 1)).run Tryz.prog (W.alloc (.cells #[.int .u8 (48 + (u : Int) % 10)] 5)) = .ok (.string ⟨#[UInt8.ofNat (48 + u % 10)]⟩) (W.alloc (.cells #[.int .u8 (48 + (u : Int) % 10)] 5)) := by
  refine run_convert_bytes_back _ _ _ _ ⟨W.heap.size, 0, none⟩ 1 [UInt8.ofNat (48 + u % 10)] Tryz.underlying22 Tryz.underlying5 Tryz.underlying9 (fun j hj => ?_)
  have hj0 : j = 0 := by simpa using hj
  subst hj0
  have h := (Blk.new W 5 #[.int .u8 (48 + (u : Int) % 10)]).cell 0
  have e : (UInt8.ofNat (48 + u % 10)).toNat = 48 + u % 10 := by rw [UInt8.toNat_ofNat']; omega
  simp only [List.getElem_cons_zero, e]
  have e2 : (((48 + u % 10 : Nat) : Nat) : Int) = 48 + (u : Int) % 10 := by omega
  rw [e2]
  simp [Addr.add]
end Go.Proofs.YtecghfcgahgfiaaGreatDoor
/- The laws' conversions of lists of records. -/
namespace Go.Proofs.YtecghfcgahgfiaaGreatDoor
open Go.RowKit

theorem rcells {w : World} {b off : Nat} {l : List RecR} (hc : ∀ i (hi : i < l.length) j u, (RecR.row l[i])[j]? = some u → w.cell? ⟨b, off + i * 2 + j, none⟩ = some u) {k : Nat} (hk : k < l.length) :
    w.cell? ⟨b, off + k * 2, none⟩ = some (.string l[k].c) ∧ w.cell? ⟨b, off + k * 2 + 1, none⟩ = some (.string l[k].r) :=
  ⟨hc k hk 0 _ rfl, hc k hk 1 _ rfl⟩
def marksR (k : Int) (n : Nat) : List RecR := (List.range n).map fun (i : Nat) => ⟨markT (k + 2 * (i : Int)), markT (k + 2 * (i : Int) + 1)⟩
theorem marksR_len (k : Int) (n : Nat) : (marksR k n).length = n := by simp [marksR]
theorem marksR_get (k : Int) (n i : Nat) (hi : i < (marksR k n).length) : (marksR k n)[i] = ⟨markT (k + 2 * (i : Int)), markT (k + 2 * (i : Int) + 1)⟩ := by simp [marksR]
end Go.Proofs.YtecghfcgahgfiaaGreatDoor
/- The records of a log, in both packages. -/
namespace Go.Proofs.YtecghfcgahgfiaaGreatDoor
open Go.RowKit

def lrF (l : LogR) : List RecR := if l.ok then recsL l.recs l.recs.length else []
theorem lrF_len (l : LogR) : (lrF l).length ≤ 60 := by
  unfold lrF
  split
  · rw [recsL_len (Nat.le_refl _)]; exact opensF_len _
  · simp
theorem ret_slb {A : Option Addr} {n m c : Nat} {a b : Bool} (h : n = m) (h' : a = b) : Ending.returned (.tuple #[.slice A n c, .bool a]) = .returned (.tuple #[.slice A m c, .bool b]) := by rw [h, h']
set_option maxHeartbeats 1000000 in
theorem i_LogRecords (l : LogR) (w : World) (h1 : l.d.size ≤ 2097152) (h2 : l.p.size ≤ 2097152) (hE : Env w) :
    Calls Tryz.prog 13 #[l.val] w fun e' w' => (∃ A c, e' = .returned (.tuple #[.slice A (lrF l).length c, .bool l.ok]) ∧ OwnF w.heap.size 40 2 RecR.row w' A (lrF l)) ∧ ∃ g, w' = plus w g := by
  have _HE := hid hE
  clear hE
  cases ho : l.ok
  · have HF : Hid (lrF l = []) := hid (by simp [lrF, ho])
    have HO := hid ho
    clear ho
    go_enter Tryz.func13, Tryz.ntmps13
    go_wp2_with fail
    refine (i_IsValidLog l _ HO.out _ h1 h2 (_HE.out.grew (by (repeat (first | with_reducible exact grew_refl _ | with_reducible assumption | with_reducible refine grew_split ?_ | with_reducible refine grew_mk ?_ | with_reducible refine grew_plus ?_ | with_reducible refine grew_alloc ?_ | with_reducible refine grew_drew ?_ | (with_reducible refine grew_set ?_ (by first | exact Nat.le_refl _ | omega | (simp [go_sem]; done) | (simp [go_sem]; omega)))))))).mono ?_
    (rintro e w' ⟨rfl, gx, rfl⟩)
    go_wp2_with fail
    go_ret2
    rw [HF.out]
    exact ⟨⟨_, 0, rfl, .inl rfl⟩, by (repeat (first | with_reducible exact grew_refl _ | with_reducible assumption | with_reducible refine grew_split ?_ | with_reducible refine grew_mk ?_ | with_reducible refine grew_plus ?_ | with_reducible refine grew_alloc ?_ | with_reducible refine grew_drew ?_ | (with_reducible refine grew_set ?_ (by first | exact Nat.le_refl _ | omega | (simp [go_sem]; done) | (simp [go_sem]; omega)))))⟩
  · have HF : Hid (lrF l = recsL l.recs l.recs.length) := hid (by simp [lrF, ho])
    have HO := hid ho
    have hsz : (l.d ++ l.p).size ≤ 4194304 := by rw [ByteArray.size_append]; omega
    have hll := recsL_len (L := l.recs) (Nat.le_refl _)
    have HR := hid (fun W h => (i_readRecords (l.d ++ l.p) W hsz h).mono (fun e w' ⟨⟨A, c, A', c', he, hO, _⟩, hg⟩ => (⟨⟨A, c, Value.slice A' (l.recs.length + 1) c', he, hO⟩, hg⟩ : (∃ A c rest, e = Ending.returned (Value.tuple #[Value.slice A l.recs.length c, rest]) ∧ Own W.heap.size 40 2 RecR.row w' A c (recsL l.recs l.recs.length)) ∧ ∃ g, w' = plus W g)))
    have HLL := hid hll
    clear ho hll
    go_enter Tryz.func13, Tryz.ntmps13
    go_wp2_with fail
    refine (i_IsValidLog l _ HO.out _ h1 h2 (_HE.out.grew (by (repeat (first | with_reducible exact grew_refl _ | with_reducible assumption | with_reducible refine grew_split ?_ | with_reducible refine grew_mk ?_ | with_reducible refine grew_plus ?_ | with_reducible refine grew_alloc ?_ | with_reducible refine grew_drew ?_ | (with_reducible refine grew_set ?_ (by first | exact Nat.le_refl _ | omega | (simp [go_sem]; done) | (simp [go_sem]; omega)))))))).mono ?_
    (rintro e w' ⟨rfl, gx, rfl⟩)
    go_wp2_with fail
    refine (HR.out _ (_HE.out.grew (by (repeat (first | with_reducible exact grew_refl _ | with_reducible assumption | with_reducible refine grew_split ?_ | with_reducible refine grew_mk ?_ | with_reducible refine grew_plus ?_ | with_reducible refine grew_alloc ?_ | with_reducible refine grew_drew ?_ | (with_reducible refine grew_set ?_ (by first | exact Nat.le_refl _ | omega | (simp [go_sem]; done) | (simp [go_sem]; omega)))))))).mono ?_
    rintro e w' ⟨⟨A, c, rest, rfl, hO⟩, g1, rfl⟩
    (try rw [plus_plus] at hO)
    have HW := hid hO
    clear hO
    go_wp2_with fail
    go_ret2
    rw [HF.out]
    exact ⟨⟨A, c, ret_slb HLL.out.symm rfl, (HW.out.f RecR.row_len).less (below_of_grew (by first | exact grew_plus (grew_alloc (grew_refl _)) | exact grew_plus (grew_plus (grew_alloc (grew_refl _))))).size⟩, by (repeat (first | with_reducible exact grew_refl _ | with_reducible assumption | with_reducible refine grew_split ?_ | with_reducible refine grew_mk ?_ | with_reducible refine grew_plus ?_ | with_reducible refine grew_alloc ?_ | with_reducible refine grew_drew ?_ | (with_reducible refine grew_set ?_ (by first | exact Nat.le_refl _ | omega | (simp [go_sem]; done) | (simp [go_sem]; omega)))))⟩
set_option maxHeartbeats 1000000 in
theorem s_LogRecords (l : LogR) (w : World) (h1 : l.d.size ≤ 2097152) (h2 : l.p.size ≤ 2097152) (hE : Env w) :
    Calls Tryz.prog 55 #[l.val] w fun e' w' => (∃ A c, e' = .returned (.tuple #[.slice A (lrF l).length c, .bool l.ok]) ∧ OwnF w.heap.size 40 2 RecR.row w' A (lrF l)) ∧ ∃ g, w' = plus w g := by
  have _HE := hid hE
  clear hE
  cases ho : l.ok
  · have HF : Hid (lrF l = []) := hid (by simp [lrF, ho])
    have HO := hid ho
    clear ho
    go_enter Tryz.func55, Tryz.ntmps55
    go_wp2_with fail
    refine (s_l27Log l _ HO.out _ h1 h2).mono ?_
    (rintro e w' ⟨rfl, gx, rfl⟩)
    go_wp2_with fail
    go_ret2
    rw [HF.out]
    exact ⟨⟨_, 0, rfl, .inl rfl⟩, by (repeat (first | with_reducible exact grew_refl _ | with_reducible assumption | with_reducible refine grew_split ?_ | with_reducible refine grew_mk ?_ | with_reducible refine grew_plus ?_ | with_reducible refine grew_alloc ?_ | with_reducible refine grew_drew ?_ | (with_reducible refine grew_set ?_ (by first | exact Nat.le_refl _ | omega | (simp [go_sem]; done) | (simp [go_sem]; omega)))))⟩
  · have HF : Hid (lrF l = recsL l.recs l.recs.length) := hid (by simp [lrF, ho])
    have HO := hid ho
    have hsz : (l.d ++ l.p).size ≤ 4194304 := by rw [ByteArray.size_append]; omega
    have hll := recsL_len (L := l.recs) (Nat.le_refl _)
    have HR := hid (fun W (_ : Env W) => (s_l27Open (l.d ++ l.p) W hsz).mono (fun e w' ⟨⟨A, c, he, hO⟩, hg⟩ => (⟨⟨A, c, Value.int .i64 (endOf l.recs), he, hO⟩, hg⟩ : (∃ A c rest, e = Ending.returned (Value.tuple #[Value.slice A l.recs.length c, rest]) ∧ Own W.heap.size 40 2 RecR.row w' A c (recsL l.recs l.recs.length)) ∧ ∃ g, w' = plus W g)))
    have HLL := hid hll
    clear ho hll
    go_enter Tryz.func55, Tryz.ntmps55
    go_wp2_with fail
    refine (s_l27Log l _ HO.out _ h1 h2).mono ?_
    (rintro e w' ⟨rfl, gx, rfl⟩)
    go_wp2_with fail
    refine (HR.out _ (_HE.out.grew (by (repeat (first | with_reducible exact grew_refl _ | with_reducible assumption | with_reducible refine grew_split ?_ | with_reducible refine grew_mk ?_ | with_reducible refine grew_plus ?_ | with_reducible refine grew_alloc ?_ | with_reducible refine grew_drew ?_ | (with_reducible refine grew_set ?_ (by first | exact Nat.le_refl _ | omega | (simp [go_sem]; done) | (simp [go_sem]; omega)))))))).mono ?_
    rintro e w' ⟨⟨A, c, rest, rfl, hO⟩, g1, rfl⟩
    (try rw [plus_plus] at hO)
    have HW := hid hO
    clear hO
    go_wp2_with fail
    go_ret2
    rw [HF.out]
    exact ⟨⟨A, c, ret_slb HLL.out.symm rfl, (HW.out.f RecR.row_len).less (below_of_grew (by first | exact grew_plus (grew_alloc (grew_refl _)) | exact grew_plus (grew_plus (grew_alloc (grew_refl _))))).size⟩, by (repeat (first | with_reducible exact grew_refl _ | with_reducible assumption | with_reducible refine grew_split ?_ | with_reducible refine grew_mk ?_ | with_reducible refine grew_plus ?_ | with_reducible refine grew_alloc ?_ | with_reducible refine grew_drew ?_ | (with_reducible refine grew_set ?_ (by first | exact Nat.le_refl _ | omega | (simp [go_sem]; done) | (simp [go_sem]; omega)))))⟩
end Go.Proofs.YtecghfcgahgfiaaGreatDoor
