/- The line of an area, in both packages. -/
import Derived.Test.YteogidghoohgaaaDoorN1
import Derived.Test.YteogidghoohgaaaDoorA5
namespace Go.Proofs.YteogidghoohgaaaDoor
open Go.RowKit

def bsA (l : List UInt8) : ByteArray := ⟨l.toArray⟩
def shareV (r : AreaR) : Int := 1000 * r.cov / r.cells
theorem share_bound {r : AreaR} (h : r.ok = true) : 0 ≤ shareV r ∧ shareV r ≤ 1000 := by
  obtain ⟨b1, b2, b3, b4, _⟩ := AreaR.bounds h
  exact ⟨Int.ediv_nonneg (by omega) (by omega), Int.ediv_le_of_le_mul (by omega) (by omega)⟩
theorem AreaR.nm_size {r : AreaR} (h : r.ok = true) : r.nm.size ≤ 10 := by
  simp only [AreaR.ok, Bool.and_eq_true] at h
  exact wordB_size h.1.1.1.1.1.1
def tailT (r : AreaR) : ByteArray := if r.cov = 0 then bsA [110, 111, 116, 32, 115, 111, 117, 110, 100, 101, 100] else bsA [108, 101, 97, 115, 116, 32] ++ num r.least ++ bsA [32, 43, 45, 32] ++ num r.spread ++ bsA [32, 99, 109]
def areaC (r : AreaR) : ByteArray := r.nm ++ bsA [32] ++ num (shareV r / 10) ++ bsA [46] ++ num (shareV r % 10) ++ bsA [37, 32, 111, 102, 32] ++ num r.cells ++ bsA [32, 99, 101, 108, 108, 115, 44, 32] ++ tailT r
theorem areaC_size {r : AreaR} (h : r.ok = true) : (areaC r).size ≤ 200 := by
  obtain ⟨b1, b2, b3, b4, b5, b6, b7, b8, _⟩ := AreaR.bounds h
  obtain ⟨s0, s1⟩ := share_bound h
  have z0 := AreaR.nm_size h
  have z1 := num_size (shareV r / 10) (by omega) (by omega)
  have z2 := num_size (shareV r % 10) (by omega) (by omega)
  have z3 := num_size r.cells (by omega) (by omega)
  have z4 := num_size r.least (by omega) (by omega)
  have z5 := num_size r.spread (by omega) (by omega)
  have zt : (tailT r).size ≤ 60 := by
    unfold tailT
    split
    · exact Nat.le_trans (Nat.le_of_eq rfl) (by decide : 11 ≤ 60)
    · simp only [ByteArray.size_append]
      have a1 : (bsA [108, 101, 97, 115, 116, 32]).size = 6 := rfl
      have a2 : (bsA [32, 43, 45, 32]).size = 4 := rfl
      have a3 : (bsA [32, 99, 109]).size = 3 := rfl
      omega
  have a1 : (bsA [32]).size = 1 := rfl
  have a2 : (bsA [46]).size = 1 := rfl
  have a3 : (bsA [37, 32, 111, 102, 32]).size = 5 := rfl
  have a4 : (bsA [32, 99, 101, 108, 108, 115, 44, 32]).size = 8 := rfl
  simp only [areaC, ByteArray.size_append, a1, a2, a3, a4]
  omega
theorem least_neg {n : Int} (h : n < 0) (y : ByteArray) : bsA [108, 101, 97, 115, 116, 32, 45] ++ (num (-n) ++ y) = bsA [108, 101, 97, 115, 116, 32] ++ (num n ++ y) := by
  rw [← num_neg h, ← ByteArray.append_assoc, ← ByteArray.append_assoc, ← ByteArray.append_assoc, show bsA [108, 101, 97, 115, 116, 32] ++ ByteArray.mk #[45] = bsA [108, 101, 97, 115, 116, 32, 45] from ByteArray.mk_append_mk _ [45]]
def areaF (r : AreaR) : ByteArray × Bool := if r.ok then (areaC r, true) else (⟨#[]⟩, false)
set_option maxHeartbeats 400000 in
theorem i_shareOf (r : AreaR) (h : r.ok = true) (w : World) :
    Calls Tryd.prog 44 #[r.val] w fun e w' => e = .returned (.int .i64 (shareV r)) ∧ ∃ g, w' = plus w g := by
  obtain ⟨b1, b2, b3, b4, _⟩ := AreaR.bounds h
  have hz : (r.cells == 0) = false := by simp; omega
  obtain ⟨s0, s1⟩ := share_bound h
  clear h
  go_enter Tryd.func44, Tryd.ntmps44
  go_wp2_with fail
  first | go_ret | ((refine wp_region_calm (by kernel_rfl) (by kernel_rfl) ?_; (repeat' (first | go_big_quiet_step (fail) | (refine wpQuiet_step (fun K hK => ?_); go_simp; go_ite <;> go_simp <;> (first | (refine hK _ ?_; clear hK K) | (apply Exists.intro; refine ⟨fun _ => ?_, hK _ ?_⟩; (fail); clear hK K))))); all_goals (refine wpQuiet_nil ?_; intro _ hw'; obtain ⟨gq, hw''⟩ := hw'; subst hw'')); go_wp2_with fail; go_ret)
  exact ⟨ret_int (by unfold shareV; first | rfl | (unfold shareV at s0 s1; unfold wrap64; omega)), by (repeat (first | with_reducible exact grew_refl _ | with_reducible assumption | with_reducible refine grew_split ?_ | with_reducible refine grew_mk ?_ | with_reducible refine grew_plus ?_ | with_reducible refine grew_alloc ?_ | with_reducible refine grew_drew ?_ | (with_reducible refine grew_set ?_ (by first | exact Nat.le_refl _ | omega | (simp [go_sem]; done) | (simp [go_sem]; omega)))))⟩
set_option maxHeartbeats 400000 in
theorem s_l26Share (r : AreaR) (h : r.ok = true) (w : World) :
    Calls Tryd.prog 59 #[r.val] w fun e w' => e = .returned (.int .i64 (shareV r)) ∧ ∃ g, w' = plus w g := by
  obtain ⟨b1, b2, b3, b4, _⟩ := AreaR.bounds h
  have hz : (r.cells == 0) = false := by simp; omega
  obtain ⟨s0, s1⟩ := share_bound h
  clear h
  go_enter Tryd.func59, Tryd.ntmps59
  go_wp2_with fail
  first | go_ret | ((refine wp_region_calm (by kernel_rfl) (by kernel_rfl) ?_; (repeat' (first | go_big_quiet_step (fail) | (refine wpQuiet_step (fun K hK => ?_); go_simp; go_ite <;> go_simp <;> (first | (refine hK _ ?_; clear hK K) | (apply Exists.intro; refine ⟨fun _ => ?_, hK _ ?_⟩; (fail); clear hK K))))); all_goals (refine wpQuiet_nil ?_; intro _ hw'; obtain ⟨gq, hw''⟩ := hw'; subst hw'')); go_wp2_with fail; go_ret)
  exact ⟨ret_int (by unfold shareV; first | rfl | (unfold shareV at s0 s1; unfold wrap64; omega)), by (repeat (first | with_reducible exact grew_refl _ | with_reducible assumption | with_reducible refine grew_split ?_ | with_reducible refine grew_mk ?_ | with_reducible refine grew_plus ?_ | with_reducible refine grew_alloc ?_ | with_reducible refine grew_drew ?_ | (with_reducible refine grew_set ?_ (by first | exact Nat.le_refl _ | omega | (simp [go_sem]; done) | (simp [go_sem]; omega)))))⟩
set_option maxHeartbeats 2000000 in
theorem i_areaLine (r : AreaR) (h : r.ok = true) (w : World) (hT : Tab w) :
    Calls Tryd.prog 34 #[r.val] w fun e w' => e = .returned (.string (areaC r)) ∧ ∃ g, w' = plus w g := by
  have HT := hid hT
  obtain ⟨b1, b2, b3, b4, b5, b6, b7, b8, _⟩ := AreaR.bounds h
  obtain ⟨s0, s1⟩ := share_bound h
  have z0 := AreaR.nm_size h
  have z1 := num_size (shareV r / 10) (by omega) (by omega)
  have z2 := num_size (shareV r % 10) (by omega) (by omega)
  have z3 := num_size r.cells (by omega) (by omega)
  have z4 := num_size r.least (by omega) (by omega)
  have z5 := num_size r.spread (by omega) (by omega)
  have HO := hid (fun W => i_shareOf r h W)
  clear h hT
  by_cases hc : r.cov = 0
  · have hc' : (r.cov == 0) = true := by simp [hc]
    have HC := hid hc
    clear hc
    go_enter Tryd.func34, Tryd.ntmps34
    go_wp2_with fail
    refine (HO.out _).mono ?_
    (rintro e w' ⟨rfl, gx, rfl⟩)
    go_wp2_with fail
    (refine wp_region_calm (by kernel_rfl) (by kernel_rfl) ?_; (repeat' (first | go_big_quiet_step ((go_at_call 35; first | exact calm_of (i_Itoa _ _ (by omega) (by omega) (HT.out.grew (by (repeat (first | with_reducible exact grew_refl _ | with_reducible assumption | with_reducible refine grew_split ?_ | with_reducible refine grew_mk ?_ | with_reducible refine grew_plus ?_ | with_reducible refine grew_alloc ?_ | with_reducible refine grew_drew ?_ | (with_reducible refine grew_set ?_ (by first | exact Nat.le_refl _ | omega | (simp [go_sem]; done) | (simp [go_sem]; omega)))))))) | exact calm_add (i_Itoa _ _ (by omega) (by omega) (HT.out.grew (by (repeat (first | with_reducible exact grew_refl _ | with_reducible assumption | with_reducible refine grew_split ?_ | with_reducible refine grew_mk ?_ | with_reducible refine grew_plus ?_ | with_reducible refine grew_alloc ?_ | with_reducible refine grew_drew ?_ | (with_reducible refine grew_set ?_ (by first | exact Nat.le_refl _ | omega | (simp [go_sem]; done) | (simp [go_sem]; omega)))))))))) | (refine wpQuiet_step (fun K hK => ?_); go_simp; go_ite <;> go_simp <;> (first | (refine hK _ ?_; clear hK K) | (apply Exists.intro; refine ⟨fun _ => ?_, hK _ ?_⟩; ((go_at_call 35; first | exact calm_of (i_Itoa _ _ (by omega) (by omega) (HT.out.grew (by (repeat (first | with_reducible exact grew_refl _ | with_reducible assumption | with_reducible refine grew_split ?_ | with_reducible refine grew_mk ?_ | with_reducible refine grew_plus ?_ | with_reducible refine grew_alloc ?_ | with_reducible refine grew_drew ?_ | (with_reducible refine grew_set ?_ (by first | exact Nat.le_refl _ | omega | (simp [go_sem]; done) | (simp [go_sem]; omega)))))))) | exact calm_add (i_Itoa _ _ (by omega) (by omega) (HT.out.grew (by (repeat (first | with_reducible exact grew_refl _ | with_reducible assumption | with_reducible refine grew_split ?_ | with_reducible refine grew_mk ?_ | with_reducible refine grew_plus ?_ | with_reducible refine grew_alloc ?_ | with_reducible refine grew_drew ?_ | (with_reducible refine grew_set ?_ (by first | exact Nat.le_refl _ | omega | (simp [go_sem]; done) | (simp [go_sem]; omega)))))))))); clear hK K))))); all_goals (refine wpQuiet_nil ?_; intro _ hw'; obtain ⟨gq, hw''⟩ := hw'; subst hw''))
    go_wp2_with fail
    go_ret
    exact ⟨ret_str (by simp [areaC, tailT, HC.out, bsA, ByteArray.append_assoc]), by (repeat (first | with_reducible exact grew_refl _ | with_reducible assumption | with_reducible refine grew_split ?_ | with_reducible refine grew_mk ?_ | with_reducible refine grew_plus ?_ | with_reducible refine grew_alloc ?_ | with_reducible refine grew_drew ?_ | (with_reducible refine grew_set ?_ (by first | exact Nat.le_refl _ | omega | (simp [go_sem]; done) | (simp [go_sem]; omega)))))⟩
  · have hc' : (r.cov == 0) = false := by simp [hc]
    have HC := hid hc
    clear hc
    go_enter Tryd.func34, Tryd.ntmps34
    go_wp2_with fail
    refine (HO.out _).mono ?_
    (rintro e w' ⟨rfl, gx, rfl⟩)
    go_wp2_with fail
    (refine wp_region_calm (by kernel_rfl) (by kernel_rfl) ?_; (repeat' (first | go_big_quiet_step ((go_at_call 35; first | exact calm_of (i_Itoa _ _ (by omega) (by omega) (HT.out.grew (by (repeat (first | with_reducible exact grew_refl _ | with_reducible assumption | with_reducible refine grew_split ?_ | with_reducible refine grew_mk ?_ | with_reducible refine grew_plus ?_ | with_reducible refine grew_alloc ?_ | with_reducible refine grew_drew ?_ | (with_reducible refine grew_set ?_ (by first | exact Nat.le_refl _ | omega | (simp [go_sem]; done) | (simp [go_sem]; omega)))))))) | exact calm_add (i_Itoa _ _ (by omega) (by omega) (HT.out.grew (by (repeat (first | with_reducible exact grew_refl _ | with_reducible assumption | with_reducible refine grew_split ?_ | with_reducible refine grew_mk ?_ | with_reducible refine grew_plus ?_ | with_reducible refine grew_alloc ?_ | with_reducible refine grew_drew ?_ | (with_reducible refine grew_set ?_ (by first | exact Nat.le_refl _ | omega | (simp [go_sem]; done) | (simp [go_sem]; omega)))))))))) | (refine wpQuiet_step (fun K hK => ?_); go_simp; go_ite <;> go_simp <;> (first | (refine hK _ ?_; clear hK K) | (apply Exists.intro; refine ⟨fun _ => ?_, hK _ ?_⟩; ((go_at_call 35; first | exact calm_of (i_Itoa _ _ (by omega) (by omega) (HT.out.grew (by (repeat (first | with_reducible exact grew_refl _ | with_reducible assumption | with_reducible refine grew_split ?_ | with_reducible refine grew_mk ?_ | with_reducible refine grew_plus ?_ | with_reducible refine grew_alloc ?_ | with_reducible refine grew_drew ?_ | (with_reducible refine grew_set ?_ (by first | exact Nat.le_refl _ | omega | (simp [go_sem]; done) | (simp [go_sem]; omega)))))))) | exact calm_add (i_Itoa _ _ (by omega) (by omega) (HT.out.grew (by (repeat (first | with_reducible exact grew_refl _ | with_reducible assumption | with_reducible refine grew_split ?_ | with_reducible refine grew_mk ?_ | with_reducible refine grew_plus ?_ | with_reducible refine grew_alloc ?_ | with_reducible refine grew_drew ?_ | (with_reducible refine grew_set ?_ (by first | exact Nat.le_refl _ | omega | (simp [go_sem]; done) | (simp [go_sem]; omega)))))))))); clear hK K))))); all_goals (refine wpQuiet_nil ?_; intro _ hw'; obtain ⟨gq, hw''⟩ := hw'; subst hw''))
    go_wp2_with fail
    (refine wp_region_calm (by kernel_rfl) (by kernel_rfl) ?_; (repeat' (first | go_big_quiet_step ((go_at_call 35; first | exact calm_of (i_Itoa _ _ (by omega) (by omega) (HT.out.grew (by (repeat (first | with_reducible exact grew_refl _ | with_reducible assumption | with_reducible refine grew_split ?_ | with_reducible refine grew_mk ?_ | with_reducible refine grew_plus ?_ | with_reducible refine grew_alloc ?_ | with_reducible refine grew_drew ?_ | (with_reducible refine grew_set ?_ (by first | exact Nat.le_refl _ | omega | (simp [go_sem]; done) | (simp [go_sem]; omega)))))))) | exact calm_add (i_Itoa _ _ (by omega) (by omega) (HT.out.grew (by (repeat (first | with_reducible exact grew_refl _ | with_reducible assumption | with_reducible refine grew_split ?_ | with_reducible refine grew_mk ?_ | with_reducible refine grew_plus ?_ | with_reducible refine grew_alloc ?_ | with_reducible refine grew_drew ?_ | (with_reducible refine grew_set ?_ (by first | exact Nat.le_refl _ | omega | (simp [go_sem]; done) | (simp [go_sem]; omega)))))))))) | (refine wpQuiet_step (fun K hK => ?_); go_simp; go_ite <;> go_simp <;> (first | (refine hK _ ?_; clear hK K) | (apply Exists.intro; refine ⟨fun _ => ?_, hK _ ?_⟩; ((go_at_call 35; first | exact calm_of (i_Itoa _ _ (by omega) (by omega) (HT.out.grew (by (repeat (first | with_reducible exact grew_refl _ | with_reducible assumption | with_reducible refine grew_split ?_ | with_reducible refine grew_mk ?_ | with_reducible refine grew_plus ?_ | with_reducible refine grew_alloc ?_ | with_reducible refine grew_drew ?_ | (with_reducible refine grew_set ?_ (by first | exact Nat.le_refl _ | omega | (simp [go_sem]; done) | (simp [go_sem]; omega)))))))) | exact calm_add (i_Itoa _ _ (by omega) (by omega) (HT.out.grew (by (repeat (first | with_reducible exact grew_refl _ | with_reducible assumption | with_reducible refine grew_split ?_ | with_reducible refine grew_mk ?_ | with_reducible refine grew_plus ?_ | with_reducible refine grew_alloc ?_ | with_reducible refine grew_drew ?_ | (with_reducible refine grew_set ?_ (by first | exact Nat.le_refl _ | omega | (simp [go_sem]; done) | (simp [go_sem]; omega)))))))))); clear hK K))))); all_goals (refine wpQuiet_nil ?_; intro _ hw'; obtain ⟨gq, hw''⟩ := hw'; subst hw''))
    go_wp2_with fail
    go_ret
    exact ⟨ret_str (by simp [areaC, tailT, HC.out, bsA, ByteArray.append_assoc]), by (repeat (first | with_reducible exact grew_refl _ | with_reducible assumption | with_reducible refine grew_split ?_ | with_reducible refine grew_mk ?_ | with_reducible refine grew_plus ?_ | with_reducible refine grew_alloc ?_ | with_reducible refine grew_drew ?_ | (with_reducible refine grew_set ?_ (by first | exact Nat.le_refl _ | omega | (simp [go_sem]; done) | (simp [go_sem]; omega)))))⟩
set_option maxHeartbeats 2000000 in
theorem s_l26Line (r : AreaR) (h : r.ok = true) (w : World) :
    Calls Tryd.prog 30 #[r.val] w fun e w' => e = .returned (.string (areaC r)) ∧ ∃ g, w' = plus w g := by
  obtain ⟨b1, b2, b3, b4, b5, b6, b7, b8, _⟩ := AreaR.bounds h
  obtain ⟨s0, s1⟩ := share_bound h
  have z0 := AreaR.nm_size h
  have z1 := num_size (shareV r / 10) (by omega) (by omega)
  have z2 := num_size (shareV r % 10) (by omega) (by omega)
  have z3 := num_size r.cells (by omega) (by omega)
  have z4 := num_size r.least (by omega) (by omega)
  have z6 := num_size (-r.least) (by omega) (by omega)
  have z5 := num_size r.spread (by omega) (by omega)
  have HO := hid (fun W => s_l26Share r h W)
  clear h
  by_cases hc : r.cov = 0
  · have hc' : (r.cov == 0) = true := by simp [hc]
    have HC := hid hc
    clear hc
    go_enter Tryd.func30, Tryd.ntmps30
    go_wp2_with fail
    refine (HO.out _).mono ?_
    (rintro e w' ⟨rfl, gx, rfl⟩)
    go_wp2_with fail
    (refine wp_region_calm (by kernel_rfl) (by kernel_rfl) ?_; (repeat' (first | go_big_quiet_step ((go_at_call 32; first | exact calm_of (s_l1Num _ _ (by omega) (by omega)) | exact calm_add (s_l1Num _ _ (by omega) (by omega)))) | (refine wpQuiet_step (fun K hK => ?_); go_simp; go_ite <;> go_simp <;> (first | (refine hK _ ?_; clear hK K) | (apply Exists.intro; refine ⟨fun _ => ?_, hK _ ?_⟩; ((go_at_call 32; first | exact calm_of (s_l1Num _ _ (by omega) (by omega)) | exact calm_add (s_l1Num _ _ (by omega) (by omega)))); clear hK K))))); all_goals (refine wpQuiet_nil ?_; intro _ hw'; obtain ⟨gq, hw''⟩ := hw'; subst hw''))
    go_wp2_with fail
    go_ret
    exact ⟨ret_str (by simp [areaC, tailT, HC.out, bsA, ByteArray.append_assoc]), by (repeat (first | with_reducible exact grew_refl _ | with_reducible assumption | with_reducible refine grew_split ?_ | with_reducible refine grew_mk ?_ | with_reducible refine grew_plus ?_ | with_reducible refine grew_alloc ?_ | with_reducible refine grew_drew ?_ | (with_reducible refine grew_set ?_ (by first | exact Nat.le_refl _ | omega | (simp [go_sem]; done) | (simp [go_sem]; omega)))))⟩
  · have hc' : (r.cov == 0) = false := by simp [hc]
    have HC := hid hc
    clear hc
    by_cases hneg : r.least < 0
    · have HN := hid (least_neg hneg)
      go_enter Tryd.func30, Tryd.ntmps30
      go_wp2_with fail
      refine (HO.out _).mono ?_
      (rintro e w' ⟨rfl, gx, rfl⟩)
      go_wp2_with fail
      (refine wp_region_calm (by kernel_rfl) (by kernel_rfl) ?_; (repeat' (first | go_big_quiet_step ((go_at_call 32; first | exact calm_of (s_l1Num _ _ (by omega) (by omega)) | exact calm_add (s_l1Num _ _ (by omega) (by omega)))) | (refine wpQuiet_step (fun K hK => ?_); go_simp; go_ite <;> go_simp <;> (first | (refine hK _ ?_; clear hK K) | (apply Exists.intro; refine ⟨fun _ => ?_, hK _ ?_⟩; ((go_at_call 32; first | exact calm_of (s_l1Num _ _ (by omega) (by omega)) | exact calm_add (s_l1Num _ _ (by omega) (by omega)))); clear hK K))))); all_goals (refine wpQuiet_nil ?_; intro _ hw'; obtain ⟨gq, hw''⟩ := hw'; subst hw''))
      go_wp2_with (go_at_call 32; refine (s_l1Num _ _ (by omega) (by omega)).mono ?_; (rintro e w' ⟨rfl, gx, rfl⟩))
      (try (refine wp_region_calm (by kernel_rfl) (by kernel_rfl) ?_; (repeat' (first | go_big_quiet_step ((go_at_call 32; first | exact calm_of (s_l1Num _ _ (by omega) (by omega)) | exact calm_add (s_l1Num _ _ (by omega) (by omega)))) | (refine wpQuiet_step (fun K hK => ?_); go_simp; go_ite <;> go_simp <;> (first | (refine hK _ ?_; clear hK K) | (apply Exists.intro; refine ⟨fun _ => ?_, hK _ ?_⟩; ((go_at_call 32; first | exact calm_of (s_l1Num _ _ (by omega) (by omega)) | exact calm_add (s_l1Num _ _ (by omega) (by omega)))); clear hK K))))); all_goals (refine wpQuiet_nil ?_; intro _ hw'; obtain ⟨gq, hw''⟩ := hw'; subst hw'')))
      go_wp2_with (go_at_call 32; refine (s_l1Num _ _ (by omega) (by omega)).mono ?_; (rintro e w' ⟨rfl, gx, rfl⟩))
      (try (refine wp_region_calm (by kernel_rfl) (by kernel_rfl) ?_; (repeat' (first | go_big_quiet_step ((go_at_call 32; first | exact calm_of (s_l1Num _ _ (by omega) (by omega)) | exact calm_add (s_l1Num _ _ (by omega) (by omega)))) | (refine wpQuiet_step (fun K hK => ?_); go_simp; go_ite <;> go_simp <;> (first | (refine hK _ ?_; clear hK K) | (apply Exists.intro; refine ⟨fun _ => ?_, hK _ ?_⟩; ((go_at_call 32; first | exact calm_of (s_l1Num _ _ (by omega) (by omega)) | exact calm_add (s_l1Num _ _ (by omega) (by omega)))); clear hK K))))); all_goals (refine wpQuiet_nil ?_; intro _ hw'; obtain ⟨gq, hw''⟩ := hw'; subst hw'')))
      go_wp2_with fail
      go_ret
      exact ⟨ret_str (by simp only [areaC, tailT, HC.out, ↓reduceIte, ByteArray.append_assoc]; rw [← HN.out]; simp [bsA, ByteArray.append_assoc]), by (repeat (first | with_reducible exact grew_refl _ | with_reducible assumption | with_reducible refine grew_split ?_ | with_reducible refine grew_mk ?_ | with_reducible refine grew_plus ?_ | with_reducible refine grew_alloc ?_ | with_reducible refine grew_drew ?_ | (with_reducible refine grew_set ?_ (by first | exact Nat.le_refl _ | omega | (simp [go_sem]; done) | (simp [go_sem]; omega)))))⟩
    · go_enter Tryd.func30, Tryd.ntmps30
      go_wp2_with fail
      refine (HO.out _).mono ?_
      (rintro e w' ⟨rfl, gx, rfl⟩)
      go_wp2_with fail
      (refine wp_region_calm (by kernel_rfl) (by kernel_rfl) ?_; (repeat' (first | go_big_quiet_step ((go_at_call 32; first | exact calm_of (s_l1Num _ _ (by omega) (by omega)) | exact calm_add (s_l1Num _ _ (by omega) (by omega)))) | (refine wpQuiet_step (fun K hK => ?_); go_simp; go_ite <;> go_simp <;> (first | (refine hK _ ?_; clear hK K) | (apply Exists.intro; refine ⟨fun _ => ?_, hK _ ?_⟩; ((go_at_call 32; first | exact calm_of (s_l1Num _ _ (by omega) (by omega)) | exact calm_add (s_l1Num _ _ (by omega) (by omega)))); clear hK K))))); all_goals (refine wpQuiet_nil ?_; intro _ hw'; obtain ⟨gq, hw''⟩ := hw'; subst hw''))
      go_wp2_with (go_at_call 32; refine (s_l1Num _ _ (by omega) (by omega)).mono ?_; (rintro e w' ⟨rfl, gx, rfl⟩))
      (try (refine wp_region_calm (by kernel_rfl) (by kernel_rfl) ?_; (repeat' (first | go_big_quiet_step ((go_at_call 32; first | exact calm_of (s_l1Num _ _ (by omega) (by omega)) | exact calm_add (s_l1Num _ _ (by omega) (by omega)))) | (refine wpQuiet_step (fun K hK => ?_); go_simp; go_ite <;> go_simp <;> (first | (refine hK _ ?_; clear hK K) | (apply Exists.intro; refine ⟨fun _ => ?_, hK _ ?_⟩; ((go_at_call 32; first | exact calm_of (s_l1Num _ _ (by omega) (by omega)) | exact calm_add (s_l1Num _ _ (by omega) (by omega)))); clear hK K))))); all_goals (refine wpQuiet_nil ?_; intro _ hw'; obtain ⟨gq, hw''⟩ := hw'; subst hw'')))
      go_wp2_with (go_at_call 32; refine (s_l1Num _ _ (by omega) (by omega)).mono ?_; (rintro e w' ⟨rfl, gx, rfl⟩))
      (try (refine wp_region_calm (by kernel_rfl) (by kernel_rfl) ?_; (repeat' (first | go_big_quiet_step ((go_at_call 32; first | exact calm_of (s_l1Num _ _ (by omega) (by omega)) | exact calm_add (s_l1Num _ _ (by omega) (by omega)))) | (refine wpQuiet_step (fun K hK => ?_); go_simp; go_ite <;> go_simp <;> (first | (refine hK _ ?_; clear hK K) | (apply Exists.intro; refine ⟨fun _ => ?_, hK _ ?_⟩; ((go_at_call 32; first | exact calm_of (s_l1Num _ _ (by omega) (by omega)) | exact calm_add (s_l1Num _ _ (by omega) (by omega)))); clear hK K))))); all_goals (refine wpQuiet_nil ?_; intro _ hw'; obtain ⟨gq, hw''⟩ := hw'; subst hw'')))
      go_wp2_with fail
      go_ret
      exact ⟨ret_str (by simp [areaC, tailT, HC.out, bsA, ByteArray.append_assoc]), by (repeat (first | with_reducible exact grew_refl _ | with_reducible assumption | with_reducible refine grew_split ?_ | with_reducible refine grew_mk ?_ | with_reducible refine grew_plus ?_ | with_reducible refine grew_alloc ?_ | with_reducible refine grew_drew ?_ | (with_reducible refine grew_set ?_ (by first | exact Nat.le_refl _ | omega | (simp [go_sem]; done) | (simp [go_sem]; omega)))))⟩
set_option maxHeartbeats 1000000 in
theorem s_AreaLine (r : AreaR) (w : World) (hs : r.nm.size ≤ maxLen) (hT : Tab w) :
    Calls Tryd.prog 26 #[r.val] w fun e w' => e = .returned (.tuple #[.string (areaF r).1, .bool (areaF r).2]) ∧ ∃ g, w' = plus w g := by
  have _HT := hid hT
  clear hT
  cases ho : r.ok
  · have HF : Hid (areaF r = (⟨#[]⟩, false)) := hid (by simp [areaF, ho])
    go_enter Tryd.func26, Tryd.ntmps26
    go_wp2_with fail
    refine (s_l26One r _ ho _ hs).mono ?_
    (rintro e w' ⟨rfl, gx, rfl⟩)
    go_wp2_with fail
    go_ret2
    exact ⟨ret_strb (by rw [HF.out]) (by rw [HF.out]), by (repeat (first | with_reducible exact grew_refl _ | with_reducible assumption | with_reducible refine grew_split ?_ | with_reducible refine grew_mk ?_ | with_reducible refine grew_plus ?_ | with_reducible refine grew_alloc ?_ | with_reducible refine grew_drew ?_ | (with_reducible refine grew_set ?_ (by first | exact Nat.le_refl _ | omega | (simp [go_sem]; done) | (simp [go_sem]; omega)))))⟩
  · have HF : Hid (areaF r = (areaC r, true)) := hid (by simp [areaF, ho])
    go_enter Tryd.func26, Tryd.ntmps26
    go_wp2_with fail
    refine (s_l26One r _ ho _ hs).mono ?_
    (rintro e w' ⟨rfl, gx, rfl⟩)
    go_wp2_with fail
    refine (s_l26Line r ho _).mono ?_
    (rintro e w' ⟨rfl, gx, rfl⟩)
    go_wp2_with fail
    go_ret2
    exact ⟨ret_strb (by rw [HF.out]) (by rw [HF.out]), by (repeat (first | with_reducible exact grew_refl _ | with_reducible assumption | with_reducible refine grew_split ?_ | with_reducible refine grew_mk ?_ | with_reducible refine grew_plus ?_ | with_reducible refine grew_alloc ?_ | with_reducible refine grew_drew ?_ | (with_reducible refine grew_set ?_ (by first | exact Nat.le_refl _ | omega | (simp [go_sem]; done) | (simp [go_sem]; omega)))))⟩
set_option maxHeartbeats 1000000 in
theorem i_AreaLine (r : AreaR) (w : World) (hs : r.nm.size ≤ maxLen) (hT : Tab w) :
    Calls Tryd.prog 25 #[r.val] w fun e w' => e = .returned (.tuple #[.string (areaF r).1, .bool (areaF r).2]) ∧ ∃ g, w' = plus w g := by
  have _HT := hid hT
  clear hT
  cases ho : r.ok
  · have HF : Hid (areaF r = (⟨#[]⟩, false)) := hid (by simp [areaF, ho])
    go_enter Tryd.func25, Tryd.ntmps25
    go_wp2_with fail
    refine (i_IsAreaRow r _ ho _ hs).mono ?_
    (rintro e w' ⟨rfl, gx, rfl⟩)
    go_wp2_with fail
    go_ret2
    exact ⟨ret_strb (by rw [HF.out]) (by rw [HF.out]), by (repeat (first | with_reducible exact grew_refl _ | with_reducible assumption | with_reducible refine grew_split ?_ | with_reducible refine grew_mk ?_ | with_reducible refine grew_plus ?_ | with_reducible refine grew_alloc ?_ | with_reducible refine grew_drew ?_ | (with_reducible refine grew_set ?_ (by first | exact Nat.le_refl _ | omega | (simp [go_sem]; done) | (simp [go_sem]; omega)))))⟩
  · have HF : Hid (areaF r = (areaC r, true)) := hid (by simp [areaF, ho])
    go_enter Tryd.func25, Tryd.ntmps25
    go_wp2_with fail
    refine (i_IsAreaRow r _ ho _ hs).mono ?_
    (rintro e w' ⟨rfl, gx, rfl⟩)
    go_wp2_with fail
    refine (i_areaLine r ho _ (_HT.out.grew (by (repeat (first | with_reducible exact grew_refl _ | with_reducible assumption | with_reducible refine grew_split ?_ | with_reducible refine grew_mk ?_ | with_reducible refine grew_plus ?_ | with_reducible refine grew_alloc ?_ | with_reducible refine grew_drew ?_ | (with_reducible refine grew_set ?_ (by first | exact Nat.le_refl _ | omega | (simp [go_sem]; done) | (simp [go_sem]; omega)))))))).mono ?_
    (rintro e w' ⟨rfl, gx, rfl⟩)
    go_wp2_with fail
    go_ret2
    exact ⟨ret_strb (by rw [HF.out]) (by rw [HF.out]), by (repeat (first | with_reducible exact grew_refl _ | with_reducible assumption | with_reducible refine grew_split ?_ | with_reducible refine grew_mk ?_ | with_reducible refine grew_plus ?_ | with_reducible refine grew_alloc ?_ | with_reducible refine grew_drew ?_ | (with_reducible refine grew_set ?_ (by first | exact Nat.le_refl _ | omega | (simp [go_sem]; done) | (simp [go_sem]; omega)))))⟩
end Go.Proofs.YteogidghoohgaaaDoor
