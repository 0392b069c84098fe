/- The reference's draws: a cursor over the bytes of a code. What each draw gives back lies in its range; the cursor's block alone is written. -/
import Derived.Test.YtjlaidjogladaaaDoorM1
namespace Go.Proofs.YtjlaidjogladaaaDoor
open Go.RowKit

def byteRow (x : Int) : List Value := [.int .u8 x]
/-- The cursor at block g, at bytes on in the code bs. -/
structure Cur (w0 w : World) (g : Nat) (A : Option Addr) (c : Nat) (bs : List Int) (at_ : Int) : Prop where
  grew : ∃ x, w = plus w0 x
  far : w0.heap.size ≤ g
  blk : ∃ seed, Blk w g 44 #[.slice A bs.length c, .int .i64 at_, .int .u64 seed]
  pos : 0 ≤ at_
theorem and255 (x : Int) : 0 ≤ bits .and .u64 x 255 ∧ bits .and .u64 x 255 ≤ 255 := by
  have h : ((BitVec.ofInt 64 x) &&& (BitVec.ofInt 64 255)).toNat ≤ 255 := by
    rw [BitVec.toNat_and]; exact Nat.le_trans Nat.and_le_right (by decide)
  have e : bits .and .u64 x 255 = IntKind.u64.wrap ((BitVec.ofInt 64 x) &&& (BitVec.ofInt 64 255)).toNat := rfl
  rw [e]
  generalize ((BitVec.ofInt 64 x) &&& (BitVec.ofInt 64 255)).toNat = n at h
  have e2 : IntKind.u64.wrap (n : Int) = (n : Int) % 18446744073709551616 := rfl
  rw [e2]
  omega
theorem wrap255 {x : Int} (h : 0 ≤ x ∧ x ≤ 255) : 0 ≤ wrap64 x ∧ wrap64 x ≤ 255 := by unfold wrap64; omega
set_option maxHeartbeats 2000000 in
set_option maxRecDepth 10000 in
theorem s_next (w0 : World) (g : Nat) (A : Option Addr) (c : Nat) (bs : List Int) (at_ : Int) (w : World) (hA : Sl w0 1 byteRow A bs) (hb : ∀ x ∈ bs, 0 ≤ x ∧ x ≤ 255) (_hl : bs.length ≤ 1048576) (hC : Cur w0 w g A c bs at_) (h1 : at_ ≤ 1099511627776) :
    Calls Tryd.prog 44 #[.pointer (some ⟨g, 0, none⟩)] w fun e w' => (∃ x, e = .returned (.int .i64 x) ∧ 0 ≤ x ∧ x ≤ 255) ∧ Cur w0 w' g A c bs (at_ + 1) ∧ w.grownBy w' (some g) := by
  obtain ⟨hg, hf, ⟨seed, hB⟩, h0⟩ := hC
  have HA := hid (hA.grew hg)
  have HB := hid hB
  have HG := hid hg
  have hlt := hB.lt
  have hc0 := hB.cell 0
  have hc1 := hB.cell 1
  have hc2 := hB.cell 2
  have hf1 := hB.frozen 1
  have hf2 := hB.frozen 2
  simp at hc0 hc1 hc2
  clear hB hg hA
  by_cases hin : at_ < bs.length
  · obtain ⟨k, hk0⟩ : ∃ k : Nat, at_ = (k : Int) := ⟨at_.toNat, by omega⟩
    subst hk0
    have hk : k < bs.length := by omega
    obtain ⟨b, off, rfl, hb', hc⟩ := HA.out.at_ hk
    have hcb := hc k hk 0 _ rfl
    simp only [Nat.add_zero, Nat.mul_one] at hcb
    clear hc
    obtain ⟨r0, r1⟩ := hb _ (List.getElem_mem hk)
    go_enter Tryd.func44, Tryd.ntmps44
    go_wp2_with fail
    (refine wp_region_calm (by kernel_rfl) (by kernel_rfl) ?_; (repeat' (first | go_big_quiet_step (fail) | (refine wpQuiet_step (fun K hK => ?_); go_simp; go_ite <;> go_simp <;> (first | (refine hK _ ?_; clear hK K) | (apply Exists.intro; refine ⟨fun _ => ?_, hK _ ?_⟩; (fail); clear hK K))))); all_goals (refine wpQuiet_nil ?_; intro _ hw'; obtain ⟨gq, hw''⟩ := hw'; subst hw''))
    go_wp2_with fail
    (refine wp_region_calm (by kernel_rfl) (by kernel_rfl) ?_; (repeat' (first | go_big_quiet_step (fail) | (refine wpQuiet_step (fun K hK => ?_); go_simp; go_ite <;> go_simp <;> (first | (refine hK _ ?_; clear hK K) | (apply Exists.intro; refine ⟨fun _ => ?_, hK _ ?_⟩; (fail); clear hK K))))); all_goals (refine wpQuiet_nil ?_; intro _ hw'; obtain ⟨gq, hw''⟩ := hw'; subst hw''))
    go_wp2_with fail
    (refine wp_region_calm (by kernel_rfl) (by kernel_rfl) ?_; (repeat' (first | go_big_quiet_step (fail) | (refine wpQuiet_step (fun K hK => ?_); go_simp; go_ite <;> go_simp <;> (first | (refine hK _ ?_; clear hK K) | (apply Exists.intro; refine ⟨fun _ => ?_, hK _ ?_⟩; (fail); clear hK K))))); all_goals (refine wpQuiet_nil ?_; intro _ hw'; obtain ⟨gq, hw''⟩ := hw'; subst hw''))
    go_wp2_with fail
    go_ret
    refine ⟨⟨_, rfl, r0, r1⟩, ?_⟩
    (have h7 := fun u v => (HB.out.set_ 1 u).set_ 2 v; simp only [List.setIfInBounds_toArray, List.set_cons_zero, List.set_cons_succ] at h7; have hgg := HG.out; exact ⟨⟨by (repeat (first | with_reducible exact grew_refl _ | with_reducible assumption | with_reducible refine grew_split ?_ | with_reducible refine grew_mk ?_ | with_reducible refine grew_plus ?_ | with_reducible refine grew_alloc ?_ | with_reducible refine grew_drew ?_ | (with_reducible refine grew_set ?_ (by first | exact Nat.le_refl _ | omega | (simp [go_sem]; done) | (simp [go_sem]; omega))))), hf, ⟨_, blk_grew (h7 _ _) (by (repeat (first | with_reducible exact grew_refl _ | with_reducible assumption | with_reducible refine grew_split ?_ | with_reducible refine grew_mk ?_ | with_reducible refine grew_plus ?_ | with_reducible refine grew_alloc ?_ | with_reducible refine grew_drew ?_ | (with_reducible refine grew_set ?_ (by first | exact Nat.le_refl _ | omega | (simp [go_sem]; done) | (simp [go_sem]; omega))))))⟩, by omega⟩, grown_then (grown_set (grown_set (grown_refl _ _))) (by (repeat (first | with_reducible exact grew_refl _ | with_reducible assumption | with_reducible refine grew_split ?_ | with_reducible refine grew_mk ?_ | with_reducible refine grew_plus ?_ | with_reducible refine grew_alloc ?_ | with_reducible refine grew_drew ?_ | (with_reducible refine grew_set ?_ (by first | exact Nat.le_refl _ | omega | (simp [go_sem]; done) | (simp [go_sem]; omega))))))⟩)
  · go_enter Tryd.func44, Tryd.ntmps44
    go_wp2_with fail
    (refine wp_region_calm (by kernel_rfl) (by kernel_rfl) ?_; (repeat' (first | go_big_quiet_step (fail) | (refine wpQuiet_step (fun K hK => ?_); go_simp; go_ite <;> go_simp <;> (first | (refine hK _ ?_; clear hK K) | (apply Exists.intro; refine ⟨fun _ => ?_, hK _ ?_⟩; (fail); clear hK K))))); all_goals (refine wpQuiet_nil ?_; intro _ hw'; obtain ⟨gq, hw''⟩ := hw'; subst hw''))
    go_wp2_with fail
    (refine wp_region_calm (by kernel_rfl) (by kernel_rfl) ?_; (repeat' (first | go_big_quiet_step (fail) | (refine wpQuiet_step (fun K hK => ?_); go_simp; go_ite <;> go_simp <;> (first | (refine hK _ ?_; clear hK K) | (apply Exists.intro; refine ⟨fun _ => ?_, hK _ ?_⟩; (fail); clear hK K))))); all_goals (refine wpQuiet_nil ?_; intro _ hw'; obtain ⟨gq, hw''⟩ := hw'; subst hw''))
    go_wp2_with fail
    go_ret
    refine ⟨⟨_, rfl, wrap255 (and255 _)⟩, ?_⟩
    (have h7 := fun u v => (HB.out.set_ 1 u).set_ 2 v; simp only [List.setIfInBounds_toArray, List.set_cons_zero, List.set_cons_succ] at h7; have hgg := HG.out; exact ⟨⟨by (repeat (first | with_reducible exact grew_refl _ | with_reducible assumption | with_reducible refine grew_split ?_ | with_reducible refine grew_mk ?_ | with_reducible refine grew_plus ?_ | with_reducible refine grew_alloc ?_ | with_reducible refine grew_drew ?_ | (with_reducible refine grew_set ?_ (by first | exact Nat.le_refl _ | omega | (simp [go_sem]; done) | (simp [go_sem]; omega))))), hf, ⟨_, blk_grew (h7 _ _) (by (repeat (first | with_reducible exact grew_refl _ | with_reducible assumption | with_reducible refine grew_split ?_ | with_reducible refine grew_mk ?_ | with_reducible refine grew_plus ?_ | with_reducible refine grew_alloc ?_ | with_reducible refine grew_drew ?_ | (with_reducible refine grew_set ?_ (by first | exact Nat.le_refl _ | omega | (simp [go_sem]; done) | (simp [go_sem]; omega))))))⟩, by omega⟩, grown_then (grown_set (grown_set (grown_refl _ _))) (by (repeat (first | with_reducible exact grew_refl _ | with_reducible assumption | with_reducible refine grew_split ?_ | with_reducible refine grew_mk ?_ | with_reducible refine grew_plus ?_ | with_reducible refine grew_alloc ?_ | with_reducible refine grew_drew ?_ | (with_reducible refine grew_set ?_ (by first | exact Nat.le_refl _ | omega | (simp [go_sem]; done) | (simp [go_sem]; omega))))))⟩)
end Go.Proofs.YtjlaidjogladaaaDoor
