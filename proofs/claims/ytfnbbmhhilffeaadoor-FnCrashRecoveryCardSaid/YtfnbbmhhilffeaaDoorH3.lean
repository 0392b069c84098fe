/- What is left of a log behind a crash, in both packages. -/
import Derived.Test.YtfnbbmhhilffeaaDoorH1
import Derived.Deep.Cut
import Derived.Laws.IdiomStrings
namespace Go.Proofs.YtfnbbmhhilffeaaDoor
open Go.RowKit

/-- The bytes with the last one turned, if it is torn. -/
def turnL (t : Bytes) (torn : Bool) : Bytes := if torn then (match t[t.length - 1]? with | some c => t.set (t.length - 1) (255 - c) | none => t) else t
def crashF (l : LogR) (k : Int) (torn : Bool) : ByteArray × Bool := if l.ok && inB k 0 l.p.size then (l.d ++ mk (turnL (bl (l.p.extract 0 k.toNat)) torn), true) else (⟨#[]⟩, false)
/-- The bytes of a text lie in a block of their own, and may be written. -/
structure Byt (W : World) (b : Nat) (t : Bytes) : Prop where
  cell : ∀ j (hj : j < t.length), W.cell? ⟨b, j, none⟩ = some (.int .u8 (t[j].toNat : Int))
  free : ∀ j, j < t.length → W.frozen? ⟨b, j, none⟩ = false
theorem byt_new (W : World) (t : ByteArray) (e : TypeId) : Byt (W.drew.alloc (.cells (bytesRow t (grownCap W t.size 0 e)) e ((bytesRow t (grownCap W t.size 0 e)).size, (bytesRow t (grownCap W t.size 0 e)).size + 1))) W.heap.size (bl t) := by
  refine ⟨fun j hj => ?_, fun j hj => ?_⟩
  · have h := World.cell?_alloc_mark W.drew (bytesRow t (grownCap W t.size 0 e)) e ((bytesRow t (grownCap W t.size 0 e)).size, (bytesRow t (grownCap W t.size 0 e)).size + 1) j
    have hj' : j < t.data.size := by rw [bl_len] at hj; exact hj
    rw [bytesRow_at t _ j hj'] at h
    exact h
  · have h := World.frozen?_alloc_mark W.drew (bytesRow t (grownCap W t.size 0 e)) e (bytesRow t (grownCap W t.size 0 e)).size ((bytesRow t (grownCap W t.size 0 e)).size + 1) j
    have hlt : j < (bytesRow t (grownCap W t.size 0 e)).size := by
      rw [bl_len] at hj
      have : t.data.size = t.size := rfl
      simp [bytesRow]; omega
    rw [show decide ((bytesRow t (grownCap W t.size 0 e)).size ≤ j) = false by simp; omega] at h
    exact h
theorem Byt.grew {W W' : World} {b : Nat} {t : Bytes} (h : Byt W b t) (hb : b < W.heap.size) (hg : ∃ g, W' = plus W g) : Byt W' b t := by
  obtain ⟨g, rfl⟩ := hg
  exact ⟨fun j hj => (cell?_plus W g hb).trans (h.cell j hj), fun j hj => (frozen?_plus W g hb).trans (h.free j hj)⟩
theorem add_zero_off (b j : Nat) : (⟨b, 0, none⟩ : Addr).add j = ⟨b, j, none⟩ := by unfold Addr.add; split <;> simp_all
theorem back_conv {W : World} {b cap n : Nat} {t : Bytes} (hY : Byt W b t) (hn : t.length = n) : (convert 22 9 (.slice (some ⟨b, 0, none⟩) n cap)).run Tryd.prog W = .ok (.string (mk t)) W := by
  subst hn
  exact run_convert_bytes_back W _ _ _ ⟨b, 0, none⟩ cap t Tryd.underlying22 Tryd.underlying5 Tryd.underlying9 (fun j hj => by rw [add_zero_off]; exact hY.cell j hj)
theorem Byt.set {W : World} {b i : Nat} {t : Bytes} (h : Byt W b t) (hi : i < t.length) (c : UInt8) : Byt (W.setCell ⟨b, i, none⟩ (.int .u8 (c.toNat : Int))) b (t.set i c) := by
  refine ⟨fun j hj => ?_, fun j hj => ?_⟩
  · rw [List.length_set] at hj
    by_cases hij : i = j
    · subst hij
      rw [List.getElem_set_self]
      exact World.cell?_setCell_same _ _ _ (h.cell i hi)
    · rw [List.getElem_set_ne hij]
      rw [World.cell?_setCell_other W ⟨b, i, none⟩ ⟨b, j, none⟩ _ (by intro e; injection e with _ e2; exact hij e2)]
      exact h.cell j hj
  · rw [List.length_set] at hj
    rw [World.frozen?_setCell]
    exact h.free j hj
theorem turn_no (t : Bytes) : turnL t false = t := rfl
theorem turn_nil {t : Bytes} (h : t.length = 0) (torn : Bool) : turnL t torn = t := by
  have := List.eq_nil_of_length_eq_zero h
  subst this
  cases torn <;> rfl
theorem turn_last {t : Bytes} {q : Nat} (h : t.length = q + 1) (hq : q < t.length) : turnL t true = t.set q (255 - t[q]) := by
  unfold turnL
  have e : t[t.length - 1]? = some t[q] := by rw [h]; simp
  simp only [if_true, e]
  rw [h]; simp
theorem sub255 (c : UInt8) : ((255 - c : UInt8).toNat : Int) = 255 - (c.toNat : Int) := by
  have := c.toNat_lt
  rw [UInt8.toNat_sub_of_le _ _ (by rw [UInt8.le_iff_toNat_le]; show c.toNat ≤ 255; omega)]
  show ((255 - c.toNat : Nat) : Int) = _
  omega
set_option maxHeartbeats 2000000 in
theorem i_CrashLog (l : LogR) (k : Int) (torn : Bool) (w : World) (h1 : l.d.size ≤ 2097152) (h2 : l.p.size ≤ 2097152) (hE : Env w) :
    Calls Tryd.prog 23 #[l.val, .int .i64 k, .bool torn] w fun e' w' => e' = .returned (.tuple #[.string (crashF l k torn).1, .bool (crashF l k torn).2]) ∧ ∃ g, w' = plus w g := by
  have _HE := hid hE
  clear hE
  cases ho : l.ok
  · have HF : Hid (crashF l k torn = (⟨#[]⟩, false)) := hid (by simp [crashF, ho])
    have HO := hid ho
    clear ho
    go_enter Tryd.func23, Tryd.ntmps23
    go_wp2_with fail
    refine (i_IsValidLog _ _ HO.out _ h1 h2 (_HE.out.grew (by (repeat (first | with_reducible exact grew_refl _ | with_reducible assumption | with_reducible refine grew_split ?_ | with_reducible refine grew_mk ?_ | with_reducible refine grew_plus ?_ | with_reducible refine grew_alloc ?_ | with_reducible refine grew_drew ?_ | (with_reducible refine grew_set ?_ (by first | exact Nat.le_refl _ | omega | (simp [go_sem]; done) | (simp [go_sem]; omega)))))))).mono ?_
    (rintro e w' ⟨rfl, gx, rfl⟩)
    go_wp2_with fail
    go_ret2
    exact ⟨ret_strb (by rw [HF.out]) (by rw [HF.out]), by (repeat (first | with_reducible exact grew_refl _ | with_reducible assumption | with_reducible refine grew_split ?_ | with_reducible refine grew_mk ?_ | with_reducible refine grew_plus ?_ | with_reducible refine grew_alloc ?_ | with_reducible refine grew_drew ?_ | (with_reducible refine grew_set ?_ (by first | exact Nat.le_refl _ | omega | (simp [go_sem]; done) | (simp [go_sem]; omega)))))⟩
  cases hk : inB k 0 l.p.size
  · have HF : Hid (crashF l k torn = (⟨#[]⟩, false)) := hid (by simp [crashF, hk])
    have HO := hid ho
    have HK := hid hk
    clear ho hk
    go_enter Tryd.func23, Tryd.ntmps23
    go_wp2_with fail
    refine (i_IsValidLog _ _ HO.out _ h1 h2 (_HE.out.grew (by (repeat (first | with_reducible exact grew_refl _ | with_reducible assumption | with_reducible refine grew_split ?_ | with_reducible refine grew_mk ?_ | with_reducible refine grew_plus ?_ | with_reducible refine grew_alloc ?_ | with_reducible refine grew_drew ?_ | (with_reducible refine grew_set ?_ (by first | exact Nat.le_refl _ | omega | (simp [go_sem]; done) | (simp [go_sem]; omega)))))))).mono ?_
    (rintro e w' ⟨rfl, gx, rfl⟩)
    go_wp2_with fail
    refine (i_inside _ _ _ _ HK.out _).mono ?_
    (rintro e w' ⟨rfl, rfl⟩)
    go_wp2_with fail
    go_ret2
    exact ⟨ret_strb (by rw [HF.out]) (by rw [HF.out]), by (repeat (first | with_reducible exact grew_refl _ | with_reducible assumption | with_reducible refine grew_split ?_ | with_reducible refine grew_mk ?_ | with_reducible refine grew_plus ?_ | with_reducible refine grew_alloc ?_ | with_reducible refine grew_drew ?_ | (with_reducible refine grew_set ?_ (by first | exact Nat.le_refl _ | omega | (simp [go_sem]; done) | (simp [go_sem]; omega)))))⟩
  have HF : Hid (crashF l k torn = (l.d ++ mk (turnL (bl (l.p.extract 0 k.toNat)) torn), true)) := hid (by simp [crashF, ho, hk])
  have hb : 0 ≤ k ∧ k ≤ l.p.size := by simpa [inB] using hk
  have HO := hid ho
  have HK := hid hk
  clear ho hk
  obtain ⟨d, p, n⟩ := l
  obtain ⟨m, rfl⟩ := Int.eq_ofNat_of_zero_le hb.1
  have hm : m ≤ p.size := by have := hb.2; simp only at this; omega
  have hmi : (m : Int) ≤ (p.size : Int) := by omega
  have hm0 : (0 : Int) ≤ (m : Int) := by omega
  simp only at h1 h2
  clear hb
  obtain ⟨t, ht⟩ : ∃ t, t = p.extract 0 m := ⟨_, rfl⟩
  have htz : t.size = m := by rw [ht, ByteArray.size_extract]; omega
  have hconv : ∀ W : World, (convert 9 22 (.string (p.extract 0 m))).run Tryd.prog W = .ok (.slice (some ⟨W.heap.size, 0, none⟩) t.size (grownCap W t.size 0 5)) (W.drew.alloc (.cells (bytesRow t (grownCap W t.size 0 5)) 5 ((bytesRow t (grownCap W t.size 0 5)).size, (bytesRow t (grownCap W t.size 0 5)).size + 1))) := fun W => by
    rw [← ht]
    exact run_bytes_of_string W _ _ _ _ Tryd.underlying9 Tryd.underlying22 Tryd.underlying5
  have HTL := hid htz
  have HT0 := hid ht
  clear htz ht
  go_enter Tryd.func23, Tryd.ntmps23
  go_wp2_with fail
  refine (i_IsValidLog _ _ HO.out _ h1 h2 (_HE.out.grew (by (repeat (first | with_reducible exact grew_refl _ | with_reducible assumption | with_reducible refine grew_split ?_ | with_reducible refine grew_mk ?_ | with_reducible refine grew_plus ?_ | with_reducible refine grew_alloc ?_ | with_reducible refine grew_drew ?_ | (with_reducible refine grew_set ?_ (by first | exact Nat.le_refl _ | omega | (simp [go_sem]; done) | (simp [go_sem]; omega)))))))).mono ?_
  (rintro e w' ⟨rfl, gx, rfl⟩)
  go_wp2_with fail
  refine (i_inside _ _ _ _ HK.out _).mono ?_
  (rintro e w' ⟨rfl, rfl⟩)
  go_upto_region 3 with (fail)
  refine wp_opaq7 (fun W => Blk W w.heap.size 25 #[.string d, .string p, .int .i64 n] ∧ ∃ g, W = plus w g) ⟨blk_grew (blk_new rfl) (by (repeat (first | with_reducible exact grew_refl _ | with_reducible assumption | with_reducible refine grew_split ?_ | with_reducible refine grew_mk ?_ | with_reducible refine grew_plus ?_ | with_reducible refine grew_alloc ?_ | with_reducible refine grew_drew ?_ | (with_reducible refine grew_set ?_ (by first | exact Nat.le_refl _ | omega | (simp [go_sem]; done) | (simp [go_sem]; omega)))))), by (repeat (first | with_reducible exact grew_refl _ | with_reducible assumption | with_reducible refine grew_split ?_ | with_reducible refine grew_mk ?_ | with_reducible refine grew_plus ?_ | with_reducible refine grew_alloc ?_ | with_reducible refine grew_drew ?_ | (with_reducible refine grew_set ?_ (by first | exact Nat.le_refl _ | omega | (simp [go_sem]; done) | (simp [go_sem]; omega)))))⟩ ?_
  rintro wq ⟨hB, hg⟩
  have HB := hid hB
  have HG := hid hg
  have hlt := hB.lt
  have x0 := hB.cell 0
  have x1 := hB.cell 1
  simp at x0 x1
  have hN := byt_new wq t 5
  have HN := hid hN
  clear hB hg hN
  go_upto_region 4 with (fail)
  generalize hb : wq.heap.size = b
  generalize hcap : grownCap wq t.size 0 5 = cap at HN ⊢
  refine wp_opaq7 (fun W => Byt W b (bl t) ∧ Blk W w.heap.size 25 #[.string d, .string p, .int .i64 n] ∧ w.heap.size < b ∧ b < W.heap.size ∧ ∃ g, W = plus w g) ⟨by subst hb; exact HN.out, blk_grew HB.out (by (repeat (first | with_reducible exact grew_refl _ | with_reducible assumption | with_reducible refine grew_split ?_ | with_reducible refine grew_mk ?_ | with_reducible refine grew_plus ?_ | with_reducible refine grew_alloc ?_ | with_reducible refine grew_drew ?_ | (with_reducible refine grew_set ?_ (by first | exact Nat.le_refl _ | omega | (simp [go_sem]; done) | (simp [go_sem]; omega)))))), by subst hb; exact hlt, by subst hb; simp, by have h := HG.out; (repeat (first | with_reducible exact grew_refl _ | with_reducible assumption | with_reducible refine grew_split ?_ | with_reducible refine grew_mk ?_ | with_reducible refine grew_plus ?_ | with_reducible refine grew_alloc ?_ | with_reducible refine grew_drew ?_ | (with_reducible refine grew_set ?_ (by first | exact Nat.le_refl _ | omega | (simp [go_sem]; done) | (simp [go_sem]; omega)))))⟩ ?_
  clear hcap hb HN x0 x1 hlt hconv
  rintro wt ⟨hY, hB2, hlb, hbt, hg2⟩
  have HY := hid hY
  have HG2 := hid hg2
  have x0 := hB2.cell 0
  have x1 := hB2.cell 1
  simp at x0 x1
  clear hY hB2 hg2
  have HF2 : Hid (crashF ⟨d, p, n⟩ (m : Int) torn = (d ++ mk (turnL (bl t) torn), true)) := hid (by rw [HF.out, HT0.out]; rfl)
  clear HF
  have hsum : t.size ≤ 2097152 := by have := HTL.out; omega
  have hbl := bl_len t
  by_cases hz : torn = false ∨ m = 0
  · have hT : turnL (bl t) torn = bl t := by
      rcases hz with h | h
      · rw [h]; exact turn_no _
      · exact turn_nil (by rw [hbl, HTL.out, h]) torn
    have hback := fun cap => back_conv (cap := cap) HY.out hbl
    have HT := hid hT
    have hg2 := HG2.out
    have hsz : (mk (bl t)).size ≤ 2097152 := by rw [mk_size]; omega
    clear hT hbl
    rcases hz with rfl | rfl
    · go_wp2_with fail
      go_ret2
      exact ⟨ret_strb (by rw [HF2.out, HT.out]) (by rw [HF2.out]), by (repeat (first | with_reducible exact grew_refl _ | with_reducible assumption | with_reducible refine grew_split ?_ | with_reducible refine grew_mk ?_ | with_reducible refine grew_plus ?_ | with_reducible refine grew_alloc ?_ | with_reducible refine grew_drew ?_ | (with_reducible refine grew_set ?_ (by first | exact Nat.le_refl _ | omega | (simp [go_sem]; done) | (simp [go_sem]; omega)))))⟩
    · cases torn
      all_goals
        go_wp2_with fail
        go_ret2
        exact ⟨ret_strb (by rw [HF2.out, HT.out]) (by rw [HF2.out]), by (repeat (first | with_reducible exact grew_refl _ | with_reducible assumption | with_reducible refine grew_split ?_ | with_reducible refine grew_mk ?_ | with_reducible refine grew_plus ?_ | with_reducible refine grew_alloc ?_ | with_reducible refine grew_drew ?_ | (with_reducible refine grew_set ?_ (by first | exact Nat.le_refl _ | omega | (simp [go_sem]; done) | (simp [go_sem]; omega)))))⟩
  · have htr : torn = true := by cases torn <;> simp_all
    subst htr
    obtain ⟨q, rfl⟩ : ∃ q, m = q + 1 := ⟨m - 1, by omega⟩
    have hq : q < (bl t).length := by rw [hbl, HTL.out]; omega
    have hT := turn_last (by rw [hbl, HTL.out]) hq
    have HT := hid hT
    obtain ⟨c, hc⟩ : ∃ c, c = (bl t)[q] := ⟨_, rfl⟩
    have hcq := HY.out.cell q hq
    have hfq := HY.out.free q hq
    have hB9 := HY.out.set hq (255 - c)
    rw [sub255] at hB9
    rw [← hc] at hcq
    have hback := fun cap => back_conv (cap := cap) hB9 (by rw [List.length_set, hbl])
    have HC := hid hc
    have c1 : (c.toNat : Int) ≤ 255 := by have := c.toNat_lt; omega
    have c0 : (0 : Int) ≤ (c.toNat : Int) := by omega
    have hq1 : (q : Int) < (t.size : Int) := by rw [hbl] at hq; omega
    have hg2 := HG2.out
    have hsz : (mk ((bl t).set q (255 - c))).size ≤ 2097152 := by rw [mk_size, List.length_set]; omega
    clear hT hc hB9 hbl hz
    go_wp2_with fail
    go_ret2
    exact ⟨ret_strb (by rw [HF2.out, HT.out, HC.out]) (by rw [HF2.out]), by (repeat (first | with_reducible exact grew_refl _ | with_reducible assumption | with_reducible refine grew_split ?_ | with_reducible refine grew_mk ?_ | with_reducible refine grew_plus ?_ | with_reducible refine grew_alloc ?_ | with_reducible refine grew_drew ?_ | (with_reducible refine grew_set ?_ (by first | exact Nat.le_refl _ | omega | (simp [go_sem]; done) | (simp [go_sem]; omega)))))⟩
set_option maxHeartbeats 2000000 in
theorem s_CrashLog (l : LogR) (k : Int) (torn : Bool) (w : World) (h1 : l.d.size ≤ 2097152) (h2 : l.p.size ≤ 2097152) (hE : Env w) :
    Calls Tryd.prog 24 #[l.val, .int .i64 k, .bool torn] w fun e' w' => e' = .returned (.tuple #[.string (crashF l k torn).1, .bool (crashF l k torn).2]) ∧ ∃ g, w' = plus w g := by
  have _HE := hid hE
  clear hE
  cases ho : l.ok
  · have HF : Hid (crashF l k torn = (⟨#[]⟩, false)) := hid (by simp [crashF, ho])
    have HO := hid ho
    clear ho
    go_enter Tryd.func24, Tryd.ntmps24
    go_wp2_with fail
    refine (s_l27Log _ _ HO.out _ h1 h2).mono ?_
    (rintro e w' ⟨rfl, gx, rfl⟩)
    go_wp2_with fail
    go_ret2
    exact ⟨ret_strb (by rw [HF.out]) (by rw [HF.out]), by (repeat (first | with_reducible exact grew_refl _ | with_reducible assumption | with_reducible refine grew_split ?_ | with_reducible refine grew_mk ?_ | with_reducible refine grew_plus ?_ | with_reducible refine grew_alloc ?_ | with_reducible refine grew_drew ?_ | (with_reducible refine grew_set ?_ (by first | exact Nat.le_refl _ | omega | (simp [go_sem]; done) | (simp [go_sem]; omega)))))⟩
  cases hk : inB k 0 l.p.size
  · have HF : Hid (crashF l k torn = (⟨#[]⟩, false)) := hid (by simp [crashF, hk])
    have HO := hid ho
    have HK := hid hk
    clear ho hk
    go_enter Tryd.func24, Tryd.ntmps24
    go_wp2_with fail
    refine (s_l27Log _ _ HO.out _ h1 h2).mono ?_
    (rintro e w' ⟨rfl, gx, rfl⟩)
    go_wp2_with fail
    refine (s_l1In _ _ _ _ HK.out _).mono ?_
    (rintro e w' ⟨rfl, rfl⟩)
    go_wp2_with fail
    go_ret2
    exact ⟨ret_strb (by rw [HF.out]) (by rw [HF.out]), by (repeat (first | with_reducible exact grew_refl _ | with_reducible assumption | with_reducible refine grew_split ?_ | with_reducible refine grew_mk ?_ | with_reducible refine grew_plus ?_ | with_reducible refine grew_alloc ?_ | with_reducible refine grew_drew ?_ | (with_reducible refine grew_set ?_ (by first | exact Nat.le_refl _ | omega | (simp [go_sem]; done) | (simp [go_sem]; omega)))))⟩
  have HF : Hid (crashF l k torn = (l.d ++ mk (turnL (bl (l.p.extract 0 k.toNat)) torn), true)) := hid (by simp [crashF, ho, hk])
  have hb : 0 ≤ k ∧ k ≤ l.p.size := by simpa [inB] using hk
  have HO := hid ho
  have HK := hid hk
  clear ho hk
  obtain ⟨d, p, n⟩ := l
  obtain ⟨m, rfl⟩ := Int.eq_ofNat_of_zero_le hb.1
  have hm : m ≤ p.size := by have := hb.2; simp only at this; omega
  have hmi : (m : Int) ≤ (p.size : Int) := by omega
  have hm0 : (0 : Int) ≤ (m : Int) := by omega
  simp only at h1 h2
  clear hb
  obtain ⟨t, ht⟩ : ∃ t, t = p.extract 0 m := ⟨_, rfl⟩
  have htz : t.size = m := by rw [ht, ByteArray.size_extract]; omega
  have hconv : ∀ W : World, (convert 9 22 (.string (p.extract 0 m))).run Tryd.prog W = .ok (.slice (some ⟨W.heap.size, 0, none⟩) t.size (grownCap W t.size 0 5)) (W.drew.alloc (.cells (bytesRow t (grownCap W t.size 0 5)) 5 ((bytesRow t (grownCap W t.size 0 5)).size, (bytesRow t (grownCap W t.size 0 5)).size + 1))) := fun W => by
    rw [← ht]
    exact run_bytes_of_string W _ _ _ _ Tryd.underlying9 Tryd.underlying22 Tryd.underlying5
  have HTL := hid htz
  have HT0 := hid ht
  clear htz ht
  go_enter Tryd.func24, Tryd.ntmps24
  go_wp2_with fail
  refine (s_l27Log _ _ HO.out _ h1 h2).mono ?_
  (rintro e w' ⟨rfl, gx, rfl⟩)
  go_wp2_with fail
  refine (s_l1In _ _ _ _ HK.out _).mono ?_
  (rintro e w' ⟨rfl, rfl⟩)
  go_upto_region 3 with (fail)
  refine wp_opaq7 (fun W => Blk W w.heap.size 25 #[.string d, .string p, .int .i64 n] ∧ ∃ g, W = plus w g) ⟨blk_grew (blk_new rfl) (by (repeat (first | with_reducible exact grew_refl _ | with_reducible assumption | with_reducible refine grew_split ?_ | with_reducible refine grew_mk ?_ | with_reducible refine grew_plus ?_ | with_reducible refine grew_alloc ?_ | with_reducible refine grew_drew ?_ | (with_reducible refine grew_set ?_ (by first | exact Nat.le_refl _ | omega | (simp [go_sem]; done) | (simp [go_sem]; omega)))))), by (repeat (first | with_reducible exact grew_refl _ | with_reducible assumption | with_reducible refine grew_split ?_ | with_reducible refine grew_mk ?_ | with_reducible refine grew_plus ?_ | with_reducible refine grew_alloc ?_ | with_reducible refine grew_drew ?_ | (with_reducible refine grew_set ?_ (by first | exact Nat.le_refl _ | omega | (simp [go_sem]; done) | (simp [go_sem]; omega)))))⟩ ?_
  rintro wq ⟨hB, hg⟩
  have HB := hid hB
  have HG := hid hg
  have hlt := hB.lt
  have x0 := hB.cell 0
  have x1 := hB.cell 1
  simp at x0 x1
  have hN := byt_new wq t 5
  have HN := hid hN
  clear hB hg hN
  go_upto_region 4 with (fail)
  generalize hb : wq.heap.size = b
  generalize hcap : grownCap wq t.size 0 5 = cap at HN ⊢
  refine wp_opaq7 (fun W => Byt W b (bl t) ∧ Blk W w.heap.size 25 #[.string d, .string p, .int .i64 n] ∧ w.heap.size < b ∧ b < W.heap.size ∧ ∃ g, W = plus w g) ⟨by subst hb; exact HN.out, blk_grew HB.out (by (repeat (first | with_reducible exact grew_refl _ | with_reducible assumption | with_reducible refine grew_split ?_ | with_reducible refine grew_mk ?_ | with_reducible refine grew_plus ?_ | with_reducible refine grew_alloc ?_ | with_reducible refine grew_drew ?_ | (with_reducible refine grew_set ?_ (by first | exact Nat.le_refl _ | omega | (simp [go_sem]; done) | (simp [go_sem]; omega)))))), by subst hb; exact hlt, by subst hb; simp, by have h := HG.out; (repeat (first | with_reducible exact grew_refl _ | with_reducible assumption | with_reducible refine grew_split ?_ | with_reducible refine grew_mk ?_ | with_reducible refine grew_plus ?_ | with_reducible refine grew_alloc ?_ | with_reducible refine grew_drew ?_ | (with_reducible refine grew_set ?_ (by first | exact Nat.le_refl _ | omega | (simp [go_sem]; done) | (simp [go_sem]; omega)))))⟩ ?_
  clear hcap hb HN x0 x1 hlt hconv
  rintro wt ⟨hY, hB2, hlb, hbt, hg2⟩
  have HY := hid hY
  have HG2 := hid hg2
  have x0 := hB2.cell 0
  have x1 := hB2.cell 1
  simp at x0 x1
  clear hY hB2 hg2
  have HF2 : Hid (crashF ⟨d, p, n⟩ (m : Int) torn = (d ++ mk (turnL (bl t) torn), true)) := hid (by rw [HF.out, HT0.out]; rfl)
  clear HF
  have hsum : t.size ≤ 2097152 := by have := HTL.out; omega
  have hbl := bl_len t
  by_cases hz : torn = false ∨ m = 0
  · have hT : turnL (bl t) torn = bl t := by
      rcases hz with h | h
      · rw [h]; exact turn_no _
      · exact turn_nil (by rw [hbl, HTL.out, h]) torn
    have hback := fun cap => back_conv (cap := cap) HY.out hbl
    have HT := hid hT
    have hg2 := HG2.out
    have hsz : (mk (bl t)).size ≤ 2097152 := by rw [mk_size]; omega
    clear hT hbl
    rcases hz with rfl | rfl
    · go_wp2_with fail
      go_ret2
      exact ⟨ret_strb (by rw [HF2.out, HT.out]) (by rw [HF2.out]), by (repeat (first | with_reducible exact grew_refl _ | with_reducible assumption | with_reducible refine grew_split ?_ | with_reducible refine grew_mk ?_ | with_reducible refine grew_plus ?_ | with_reducible refine grew_alloc ?_ | with_reducible refine grew_drew ?_ | (with_reducible refine grew_set ?_ (by first | exact Nat.le_refl _ | omega | (simp [go_sem]; done) | (simp [go_sem]; omega)))))⟩
    · cases torn
      all_goals
        go_wp2_with fail
        go_ret2
        exact ⟨ret_strb (by rw [HF2.out, HT.out]) (by rw [HF2.out]), by (repeat (first | with_reducible exact grew_refl _ | with_reducible assumption | with_reducible refine grew_split ?_ | with_reducible refine grew_mk ?_ | with_reducible refine grew_plus ?_ | with_reducible refine grew_alloc ?_ | with_reducible refine grew_drew ?_ | (with_reducible refine grew_set ?_ (by first | exact Nat.le_refl _ | omega | (simp [go_sem]; done) | (simp [go_sem]; omega)))))⟩
  · have htr : torn = true := by cases torn <;> simp_all
    subst htr
    obtain ⟨q, rfl⟩ : ∃ q, m = q + 1 := ⟨m - 1, by omega⟩
    have hq : q < (bl t).length := by rw [hbl, HTL.out]; omega
    have hT := turn_last (by rw [hbl, HTL.out]) hq
    have HT := hid hT
    obtain ⟨c, hc⟩ : ∃ c, c = (bl t)[q] := ⟨_, rfl⟩
    have hcq := HY.out.cell q hq
    have hfq := HY.out.free q hq
    have hB9 := HY.out.set hq (255 - c)
    rw [sub255] at hB9
    rw [← hc] at hcq
    have hback := fun cap => back_conv (cap := cap) hB9 (by rw [List.length_set, hbl])
    have HC := hid hc
    have c1 : (c.toNat : Int) ≤ 255 := by have := c.toNat_lt; omega
    have c0 : (0 : Int) ≤ (c.toNat : Int) := by omega
    have hq1 : (q : Int) < (t.size : Int) := by rw [hbl] at hq; omega
    have hg2 := HG2.out
    have hsz : (mk ((bl t).set q (255 - c))).size ≤ 2097152 := by rw [mk_size, List.length_set]; omega
    clear hT hc hB9 hbl hz
    go_wp2_with fail
    go_ret2
    exact ⟨ret_strb (by rw [HF2.out, HT.out, HC.out]) (by rw [HF2.out]), by (repeat (first | with_reducible exact grew_refl _ | with_reducible assumption | with_reducible refine grew_split ?_ | with_reducible refine grew_mk ?_ | with_reducible refine grew_plus ?_ | with_reducible refine grew_alloc ?_ | with_reducible refine grew_drew ?_ | (with_reducible refine grew_set ?_ (by first | exact Nat.le_refl _ | omega | (simp [go_sem]; done) | (simp [go_sem]; omega)))))⟩
end Go.Proofs.YtfnbbmhhilffeaaDoor
