/- slices.Delete of one row of an area list of the call's own. -/
import Derived.Test.YteogidghoohgaaaDoorMc
import Derived.Test.YteogidghoohgaaaDoorAl
namespace Go.Proofs.YteogidghoohgaaaDoor
open Go.RowKit

attribute [local go_sem ↓] Go.wp_at_zero Go.wp_at_succ
theorem cut_filled {l : List AreaR} {cs : Array Value} {k : Nat} {zs : List Value} (hF : Filled cs 6 AreaR.row l l.length) (hs : l.length * 6 ≤ cs.size) (hk : k < l.length) :
    Filled (put (put cs (k * 6) ((l.drop (k + 1)).flatMap AreaR.row)) ((l.length - 1) * 6) zs) 6 AreaR.row (l.take k ++ l.drop (k + 1)) (l.take k ++ l.drop (k + 1)).length := by
  intro i hi _ j u hu
  have hj : j < 6 := by have := (List.getElem?_eq_some_iff.1 hu).1; simpa [AreaR.row] using this
  have hlen : (l.take k ++ l.drop (k + 1)).length = l.length - 1 := by simp; omega
  rw [hlen] at hi
  rw [put_below _ _ _ _ (by omega)]
  by_cases hik : i < k
  · rw [put_below _ _ _ _ (by omega)]
    refine hF i (by omega) (by omega) j u ?_
    rw [← hu, List.getElem_append_left (by simp; omega), List.getElem_take]
  · have hd : i - k < (l.drop (k + 1)).length := by simp; omega
    have h := flat_get (cells := AreaR.row) (s := 6) (fun _ => rfl) (l.drop (k + 1)) (i - k) hd j u (by rw [← hu, List.getElem_append_right (by simp; omega)]; simp [Nat.min_eq_left (Nat.le_of_lt hk)])
    have h2 := put_at _ cs (k * 6) _ _ h (by omega)
    rw [show i * 6 + j = k * 6 + ((i - k) * 6 + j) by omega]
    exact h2
set_option maxHeartbeats 4000000 in
theorem i_Delete (l : List AreaR) (g cap k : Nat) (cs : Array Value) (w : World) (hB : Blk w g 40 cs) (hF : Filled cs 6 AreaR.row l l.length) (hs : l.length * 6 ≤ cs.size) (hcap : l.length ≤ cap) (hmax : cap ≤ maxLen) (hk : k < l.length) :
    Calls Tryd.prog 50 #[.slice (some ⟨g, 0, none⟩) l.length cap, .int .i64 k, .int .i64 ((k : Int) + 1)] w fun e w' => e = .returned (.slice (some ⟨g, 0, none⟩) (l.take k ++ l.drop (k + 1)).length cap) ∧ (∃ cs', Blk w' g 40 cs' ∧ cs'.size = cs.size ∧ Filled cs' 6 AreaR.row (l.take k ++ l.drop (k + 1)) (l.take k ++ l.drop (k + 1)).length) ∧ w.grownBy w' (some g) := by
  unfold maxLen at hmax
  obtain ⟨i0, hi0, hz0, hz1, hz2⟩ := info_parts area_info
  have HB := hid hB
  have HF := hid hF
  have hlk : (k : Int) < (l.length : Int) := by omega
  have hlk1 : (k : Int) + 1 ≤ (l.length : Int) := by omega
  have hcap1 : (l.length : Int) ≤ (cap : Int) := by omega
  have e1 : ((k : Int) == (k : Int) + 1) = false := by simp; omega
  obtain ⟨ys, hys⟩ : ∃ ys, l.drop (k + 1) = ys := ⟨_, rfl⟩
  have hyl : ys.length = l.length - (k + 1) := by rw [← hys]; simp
  have hsl : Hid (∀ i (hi : i < ys.length) j u, (AreaR.row ys[i])[j]? = some u → w.drew.cell? ⟨g, (k + 1) * 6 + i * 6 + j, none⟩ = some u) := hid (by
    intro i hi j u hu
    have h1 : (k + 1) + i < l.length := by omega
    have h2 : ys[i] = l[(k + 1) + i] := by simp [← hys]
    rw [h2] at hu
    have h3 := HF.out _ h1 h1 j u hu
    show w.cell? _ = _
    rw [HB.out.cell, show (k + 1) * 6 + i * 6 + j = (k + 1 + i) * 6 + j by omega]
    exact h3)
  obtain ⟨ad, had, hsrc⟩ : ∃ ad : Addr, (if cap = k + 1 then some (⟨g, 0, none⟩ : Addr) else some ⟨g, (k + 1) * 6, none⟩) = some ad ∧ Hid (∀ j u, (ys.flatMap AreaR.row)[j]? = some u → w.drew.cell? (ad.add j) = some u) := by
    by_cases h : cap = k + 1
    · refine ⟨⟨g, 0, none⟩, by simp [h], hid fun j u hu => ?_⟩
      have h0 : ys = [] := List.eq_nil_of_length_eq_zero (by omega)
      subst h0; simp at hu
    · exact ⟨⟨g, (k + 1) * 6, none⟩, by simp [h], hid (sl_news (s := 6) (fun _ => rfl) (by omega) hsl.out)⟩
  have s1 : Hid ((ys.flatMap AreaR.row).length = (l.length - (k + 1)) * 6) := hid (by rw [flat_len (s := 6) (fun _ => rfl), hyl])
  have s3 : Hid (∀ t, t < (ys.flatMap AreaR.row).length → (w.drew.cell? ⟨g, 0 + k * 6 + t, none⟩).isSome = true ∧ w.drew.frozen? ⟨g, 0 + k * 6 + t, none⟩ = false) := hid (by
    intro t ht
    rw [s1.out] at ht
    refine ⟨?_, HB.out.frozen _⟩
    show (w.cell? _).isSome = true
    have hz : 0 + k * 6 + t < cs.size := by omega
    rw [HB.out.cell, Array.getElem?_eq_getElem hz]; rfl)
  obtain ⟨W1, hW1⟩ : ∃ W1, W1 = w.drew.setCells g (0 + k * 6) (ys.flatMap AreaR.row) := ⟨_, rfl⟩
  have hB1 : Blk W1 g 40 (put cs (k * 6) (ys.flatMap AreaR.row)) := by
    rw [hW1, Nat.zero_add]
    exact Blk.setCells _ _ HB.out
  have hG1 : w.grownBy W1 (some g) := by
    rw [hW1]
    exact grown_setCells _ _ (grown_then (grown_refl w _) ⟨_, drew_is_plus w⟩)
  have hcl0 : ∀ ty c, (Builtin.clear_ #[26] ty #[.slice (some ⟨g, (l.length - 1) * 6, none⟩) 1 c]).run Tryd.prog W1 = .ok (.tuple #[]) (W1.setCells g ((l.length - 1) * 6) [.string ByteArray.empty, .int .i64 0, .int .i64 0, .int .i64 0, .int .i64 0, .int .i64 0]) :=
    fun ty c => run_clear_one W1 26 40 ty (.agg ([.string ByteArray.empty, .int .i64 0, .int .i64 0, .int .i64 0, .int .i64 0, .int .i64 0] : List Value).toArray) [.string ByteArray.empty, .int .i64 0, .int .i64 0, .int .i64 0, .int .i64 0, .int .i64 0] Tryd.underlying26 Tryd.zeroValue40 (by kernel_rfl) (by intro u hu; simp at hu; rcases hu with rfl | rfl | rfl | rfl | rfl | rfl <;> rfl) g _ c (fun j hj => by rw [hB1.cell, Array.getElem?_eq_getElem (by rw [size_put]; simp at hj; omega)]; rfl) (fun j _ => hB1.frozen _)
  have hsum : k + (l.length - (k + 1)) = l.length - 1 := by omega
  have hsub : l.length - (l.length - 1) = 1 := by omega
  have hcl : ∀ ty c, (Builtin.clear_ #[26] ty #[.slice (some ⟨g, (k + (l.length - (k + 1))) * 6, none⟩) (l.length - (k + (l.length - (k + 1)))) c]).run Tryd.prog W1 = .ok (.tuple #[]) (W1.setCells g ((l.length - 1) * 6) [.string ByteArray.empty, .int .i64 0, .int .i64 0, .int .i64 0, .int .i64 0, .int .i64 0]) := by
    rw [hsum, hsub]; exact hcl0
  have hW := hid hW1
  have HB1 := hid hB1
  have HG1 := hid hG1
  have HYS := hid hys
  have hkc : k ≤ cap := by omega
  have hjc : k + 1 ≤ cap := by omega
  have HSUM := hid hsum
  have HLEN := hid (show (l.take k ++ l.drop (k + 1)).length = k + (l.length - (k + 1)) by simp; omega)
  have hk0 : (0 : Int) ≤ (k : Int) + 1 := by omega
  have HI := hid hi0
  have HZ := hid hz1
  clear hcl0 hsum hsub hi0 hz0 hz1 hz2
  clear hB hF hys hyl hW1 hB1 hG1 hsl
  go_enter Tryd.func50, Tryd.ntmps50
  go_wp2_with fail
  go_region_law ((refine step_append_room rfl (.tmp 22) (.tmp 25) 26 rfl 40 i0 6 Tryd.underlying26 HI.out HZ.out g 0 k cap (by simp [Act.eval, Act.put]) ad (l.length - (k + 1)) (cap - (k + 1)) (ys.flatMap AreaR.row) (by simp [Act.eval, Act.put]) s1.out hsrc.out (flat_one AreaR.one ys) (by omega) s3.out ?_; rw [← hW.out]))
  go_wp2
  go_ret
  refine ⟨by rw [HLEN.out]; rfl, ⟨_, (HB1.out.setCells _ _), by rw [size_put, size_put], ?_⟩, grown_setCells _ _ HG1.out⟩
  rw [← HYS.out]
  exact cut_filled HF.out hs hk
end Go.Proofs.YteogidghoohgaaaDoor
