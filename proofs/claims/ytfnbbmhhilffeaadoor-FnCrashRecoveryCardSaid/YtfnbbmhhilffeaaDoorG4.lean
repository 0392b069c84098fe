/- Checksums and the lines of records, in both packages. -/
import Derived.Test.YtfnbbmhhilffeaaDoorG3
import Derived.Test.YtfnbbmhhilffeaaDoorN1
namespace Go.Proofs.YtfnbbmhhilffeaaDoor
open Go.RowKit

/-- The tables and the variable that the library reads lie where they should. -/
structure Env (w : World) : Prop where
  tab : Tab w
  mx : ∃ m, w.cell? ⟨0, 0, none⟩ = some (.int .i64 m)
theorem Env.grew {w w' : World} (h : Env w) (hg : ∃ g, w' = plus w g) : Env w' :=
  ⟨h.tab.grew hg, by obtain ⟨m, hm⟩ := h.mx; exact ⟨m, (below_of_grew hg).cell (World.block_lt_of_cell? _ _ hm) |>.trans hm⟩⟩
theorem take_step (s : ByteArray) (k : Nat) (h : k < s.size) : (bl s).take (k + 1) = (bl s).take k ++ [s[k]] := by
  rw [List.take_succ_eq_append_getElem (by simpa using h)]; rfl
theorem take_all (s : ByteArray) : (bl s).take s.size = bl s := List.take_of_length_le (by rw [bl_len]; exact Nat.le_refl _)
set_option maxHeartbeats 400000 in
theorem s_l1Sum (s : ByteArray) (w : World) (hs : s.size ≤ maxLen) :
    Calls Tryd.prog 58 #[.string s] w fun e w' => e = .returned (.int .i64 (sumL (bl s))) ∧ w = w' := by
  unfold maxLen at hs
  go_enter Tryd.func58, Tryd.ntmps58
  go_wp2_with fail
  go_loop [3, 4] (fun h i => ∃ k : Nat, k ≤ s.size ∧ i = .int .i64 k ∧ h = .int .i64 (sumL ((bl s).take k))) (fun _ i => s.size - (intOf i).toNat)
  case atStart => exact ⟨0, Nat.zero_le _, rfl, rfl⟩
  case round =>
    obtain ⟨k, hk, rfl, rfl⟩ := hrel
    obtain ⟨r0, r1⟩ := sumL_range ((bl s).take k)
    by_cases hlt : k < s.size
    · have hb := s[k].toNat_lt
      have hb' : (s[k].toNat : Int) < 256 := by omega
      have hb0 : (0 : Int) ≤ (s[k].toNat : Int) := by omega
      have HS := hid (take_step s k hlt)
      have HL := hid (sumL_snoc ((bl s).take k) s[k])
      go_wp2
      go_round
      case rel => exact ⟨k + 1, by omega, by go_num, by rw [HS.out, HL.out]⟩
      case measure => simp [intOf]; omega
    · obtain rfl : k = s.size := by omega
      go_wp2
      go_ret
      exact ⟨ret_int (by rw [take_all]), rfl⟩
set_option maxHeartbeats 400000 in
theorem i_checksum (s : ByteArray) (w : World) (hs : s.size ≤ maxLen) :
    Calls Tryd.prog 56 #[.string s] w fun e w' => e = .returned (.int .i64 (sumL (bl s))) ∧ w = w' := by
  unfold maxLen at hs
  go_enter Tryd.func56, Tryd.ntmps56
  go_wp2_with fail
  go_loop [3, 4] (fun h i => ∃ k : Nat, k ≤ s.size ∧ i = .int .i64 k ∧ h = .int .i64 (sumL ((bl s).take k))) (fun _ i => s.size - (intOf i).toNat)
  case atStart => exact ⟨0, Nat.zero_le _, rfl, rfl⟩
  case round =>
    obtain ⟨k, hk, rfl, rfl⟩ := hrel
    obtain ⟨r0, r1⟩ := sumL_range ((bl s).take k)
    by_cases hlt : k < s.size
    · have hb := s[k].toNat_lt
      have hb' : (s[k].toNat : Int) < 256 := by omega
      have hb0 : (0 : Int) ≤ (s[k].toNat : Int) := by omega
      have HS := hid (take_step s k hlt)
      have HL := hid (sumL_snoc ((bl s).take k) s[k])
      go_wp2
      go_round
      case rel => exact ⟨k + 1, by omega, by go_num, by rw [HS.out, HL.out]⟩
      case measure => simp [intOf]; omega
    · obtain rfl : k = s.size := by omega
      go_wp2
      go_ret
      exact ⟨ret_int (by rw [take_all]), rfl⟩
/-- A text with its checksum. -/
def sealB (s : ByteArray) : ByteArray := s ++ ⟨#[35]⟩ ++ num (sumL (bl s))
theorem seal_size (s : ByteArray) : (sealB s).size ≤ s.size + 15 := by
  have := num_size (sumL (bl s)) (by have := sumL_range (bl s); omega) (by have := sumL_range (bl s); omega)
  have h1 : (⟨#[35]⟩ : ByteArray).size = 1 := rfl
  simp only [sealB, ByteArray.size_append, h1]; omega
theorem sum_bound (s : Bytes) : -9223372036854775808 ≤ sumL s ∧ sumL s ≤ 9223372036854775807 ∧ -1000000000000 ≤ sumL s ∧ sumL s ≤ 1000000000000 := by
  have := sumL_range s; omega
set_option maxHeartbeats 1000000 in
theorem s_l1Seal (s : ByteArray) (w : World) (hs : s.size ≤ 1048576) :
    Calls Tryd.prog 49 #[.string s] w fun e w' => e = .returned (.string (sealB s)) ∧ ∃ g, w' = plus w g := by
  have hm : s.size ≤ maxLen := by unfold maxLen; omega
  have HM := hid hm
  clear hm
  have z1 := num_size (sumL (bl s)) (sum_bound _).2.2.1 (sum_bound _).2.2.2
  go_enter Tryd.func49, Tryd.ntmps49
  go_wp2_with fail
  refine (s_l1Sum s _ HM.out).mono ?_
  (rintro e w' ⟨rfl, rfl⟩)
  go_wp2_with fail
  refine (s_l1Num _ _ (sum_bound _).2.2.1 (sum_bound _).2.2.2).mono ?_
  (rintro e w' ⟨rfl, gx, rfl⟩)
  go_wp2_with fail
  go_ret
  exact ⟨ret_str rfl, by (repeat (first | with_reducible exact grew_refl _ | with_reducible assumption | with_reducible refine grew_split ?_ | with_reducible refine grew_mk ?_ | with_reducible refine grew_plus ?_ | with_reducible refine grew_alloc ?_ | with_reducible refine grew_drew ?_ | (with_reducible refine grew_set ?_ (by first | exact Nat.le_refl _ | omega | (simp [go_sem]; done) | (simp [go_sem]; omega)))))⟩
set_option maxHeartbeats 1000000 in
theorem i_AppendChecksum (s : ByteArray) (w : World) (hs : s.size ≤ 3900) (hf : hasB s 35 = false) (hE : Env w) :
    Calls Tryd.prog 45 #[.string s] w fun e w' => e = .returned (.tuple #[.string (sealB s), .bool true]) ∧ ∃ g, w' = plus w g := by
  have hm : s.size ≤ maxLen := by unfold maxLen; omega
  have HM := hid hm
  have HE := hid hE
  have HF := hid ((contains_has s 35).trans hf)
  clear hm hE hf
  have z1 := num_size (sumL (bl s)) (sum_bound _).2.2.1 (sum_bound _).2.2.2
  go_enter Tryd.func45, Tryd.ntmps45
  go_wp2_with fail
  refine (Tryd.strings_Contains_one s 35 _).mono ?_
  rintro e w' ⟨rfl, hw⟩
  rw [HF.out, hw]
  go_wp2_with fail
  refine (i_checksum s _ HM.out).mono ?_
  (rintro e w' ⟨rfl, rfl⟩)
  go_wp2_with fail
  refine (i_Itoa _ _ (sum_bound _).1 (sum_bound _).2.1 HE.out.tab).mono ?_
  (rintro e w' ⟨rfl, gx, rfl⟩)
  go_wp2_with fail
  go_ret2
  exact ⟨ret_strb rfl rfl, by (repeat (first | with_reducible exact grew_refl _ | with_reducible assumption | with_reducible refine grew_split ?_ | with_reducible refine grew_mk ?_ | with_reducible refine grew_plus ?_ | with_reducible refine grew_alloc ?_ | with_reducible refine grew_drew ?_ | (with_reducible refine grew_set ?_ (by first | exact Nat.le_refl _ | omega | (simp [go_sem]; done) | (simp [go_sem]; omega)))))⟩
/-- A record's text and line. -/
def textV (k : Nat) (e : RecR) : ByteArray := num k ++ ⟨#[32]⟩ ++ e.c ++ ⟨#[64]⟩ ++ e.r
def lineV (k : Nat) (e : RecR) : ByteArray := sealB (textV k e) ++ ⟨#[10]⟩
theorem bl_app (a b : ByteArray) : bl (a ++ b) = bl a ++ bl b := by simp [bl, ByteArray.data_append]
theorem textV_bytes (k : Nat) (e : RecR) : bl (textV k e) = textB k (bl e.c) (bl e.r) := by
  simp only [textV, bl_app, textB, num]
  simp [bl]
theorem lineV_bytes (k : Nat) (e : RecR) : bl (lineV k e) = e.line k ++ [10] := by
  simp only [lineV, sealB, bl_app, textV_bytes, RecR.line, lineB, num]
  simp [bl]
theorem textV_size (k : Nat) (e : RecR) : (textV k e).size = (num k).size + 2 + e.c.size + e.r.size := by
  have h1 : (⟨#[32]⟩ : ByteArray).size = 1 := rfl
  have h2 : (⟨#[64]⟩ : ByteArray).size = 1 := rfl
  simp only [textV, ByteArray.size_append, h1, h2]; omega
theorem text_hash {e : RecR} (h : e.ok = true) (k : Nat) : hasB (textV k e) 35 = false := by
  rw [hasB, List.any_eq_false]
  intro c hc
  have := (text_free h k c (by rw [← textV_bytes]; exact hc)).1
  simp only [beq_iff_eq]
  intro e1
  exact this (UInt8.toNat_inj.1 e1)
abbrev RecR.val (e : RecR) : Value := .agg #[.string e.c, .string e.r]
set_option maxHeartbeats 1000000 in
theorem i_encodeRecord (k : Nat) (e : RecR) (w : World) (hk : k < 60) (ho : e.ok = true) (hE : Env w) :
    Calls Tryd.prog 30 #[.int .i64 k, e.val] w fun e' w' => e' = .returned (.string (lineV k e)) ∧ ∃ g, w' = plus w g := by
  obtain ⟨p1, p2, _, _, _, p3⟩ := RecR.parts ho
  have z1 := num_size k (by omega) (by omega)
  have hz := textV_size k e
  have z2 : (sealB (textV k e)).size ≤ 1000 := by have := seal_size (textV k e); omega
  have HC := hid (fun W (h : Env W) => i_AppendChecksum (textV k e) W (by omega) (text_hash ho k) h)
  have HE := hid hE
  obtain ⟨c, r⟩ := e
  simp only at p1 p2 p3
  clear hz ho hE
  go_enter Tryd.func30, Tryd.ntmps30
  go_wp2_with fail
  (refine wp_region_calm (by kernel_rfl) (by kernel_rfl) ?_; (repeat' (first | go_big_quiet_step ((first | (go_at_call 46; exact calm_of (i_Itoa _ _ (by omega) (by omega) (HE.out.tab.grew (by (repeat (first | with_reducible exact grew_refl _ | with_reducible assumption | with_reducible refine grew_split ?_ | with_reducible refine grew_mk ?_ | with_reducible refine grew_plus ?_ | with_reducible refine grew_alloc ?_ | with_reducible refine grew_drew ?_ | (with_reducible refine grew_set ?_ (by first | exact Nat.le_refl _ | omega | (simp [go_sem]; done) | (simp [go_sem]; omega))))))))) | (go_at_call 45; first | exact calm_of (HC.out _ (HE.out.grew (by (repeat (first | with_reducible exact grew_refl _ | with_reducible assumption | with_reducible refine grew_split ?_ | with_reducible refine grew_mk ?_ | with_reducible refine grew_plus ?_ | with_reducible refine grew_alloc ?_ | with_reducible refine grew_drew ?_ | (with_reducible refine grew_set ?_ (by first | exact Nat.le_refl _ | omega | (simp [go_sem]; done) | (simp [go_sem]; omega)))))))) | exact calm_add (HC.out _ (HE.out.grew (by (repeat (first | with_reducible exact grew_refl _ | with_reducible assumption | with_reducible refine grew_split ?_ | with_reducible refine grew_mk ?_ | with_reducible refine grew_plus ?_ | with_reducible refine grew_alloc ?_ | with_reducible refine grew_drew ?_ | (with_reducible refine grew_set ?_ (by first | exact Nat.le_refl _ | omega | (simp [go_sem]; done) | (simp [go_sem]; omega))))))))))) | (refine wpQuiet_step (fun K hK => ?_); go_simp; go_ite <;> go_simp <;> (first | (refine hK _ ?_; clear hK K) | (apply Exists.intro; refine ⟨fun _ => ?_, hK _ ?_⟩; ((first | (go_at_call 46; exact calm_of (i_Itoa _ _ (by omega) (by omega) (HE.out.tab.grew (by (repeat (first | with_reducible exact grew_refl _ | with_reducible assumption | with_reducible refine grew_split ?_ | with_reducible refine grew_mk ?_ | with_reducible refine grew_plus ?_ | with_reducible refine grew_alloc ?_ | with_reducible refine grew_drew ?_ | (with_reducible refine grew_set ?_ (by first | exact Nat.le_refl _ | omega | (simp [go_sem]; done) | (simp [go_sem]; omega))))))))) | (go_at_call 45; first | exact calm_of (HC.out _ (HE.out.grew (by (repeat (first | with_reducible exact grew_refl _ | with_reducible assumption | with_reducible refine grew_split ?_ | with_reducible refine grew_mk ?_ | with_reducible refine grew_plus ?_ | with_reducible refine grew_alloc ?_ | with_reducible refine grew_drew ?_ | (with_reducible refine grew_set ?_ (by first | exact Nat.le_refl _ | omega | (simp [go_sem]; done) | (simp [go_sem]; omega)))))))) | exact calm_add (HC.out _ (HE.out.grew (by (repeat (first | with_reducible exact grew_refl _ | with_reducible assumption | with_reducible refine grew_split ?_ | with_reducible refine grew_mk ?_ | with_reducible refine grew_plus ?_ | with_reducible refine grew_alloc ?_ | with_reducible refine grew_drew ?_ | (with_reducible refine grew_set ?_ (by first | exact Nat.le_refl _ | omega | (simp [go_sem]; done) | (simp [go_sem]; omega))))))))))); clear hK K))))); all_goals (refine wpQuiet_nil ?_; intro _ hw'; obtain ⟨gq, hw''⟩ := hw'; subst hw''))
  go_wp2_with fail
  go_ret
  exact ⟨ret_str rfl, by (repeat (first | with_reducible exact grew_refl _ | with_reducible assumption | with_reducible refine grew_split ?_ | with_reducible refine grew_mk ?_ | with_reducible refine grew_plus ?_ | with_reducible refine grew_alloc ?_ | with_reducible refine grew_drew ?_ | (with_reducible refine grew_set ?_ (by first | exact Nat.le_refl _ | omega | (simp [go_sem]; done) | (simp [go_sem]; omega)))))⟩
set_option maxHeartbeats 1000000 in
theorem s_l27Line (k : Nat) (e : RecR) (w : World) (hk : k < 1000) (h1 : e.c.size ≤ 100000) (h2 : e.r.size ≤ 100000) :
    Calls Tryd.prog 33 #[.int .i64 k, e.val] w fun e' w' => e' = .returned (.string (lineV k e)) ∧ ∃ g, w' = plus w g := by
  have z1 := num_size k (by omega) (by omega)
  have hz := textV_size k e
  have z2 : (sealB (textV k e)).size ≤ 1000000 := by have := seal_size (textV k e); omega
  have HC := hid (fun W => s_l1Seal (textV k e) W (by omega))
  obtain ⟨c, r⟩ := e
  simp only at h1 h2
  clear hz
  go_enter Tryd.func33, Tryd.ntmps33
  go_wp2_with fail
  (refine wp_region_calm (by kernel_rfl) (by kernel_rfl) ?_; (repeat' (first | go_big_quiet_step ((first | (go_at_call 50; exact calm_of (s_l1Num _ _ (by omega) (by omega))) | (go_at_call 49; first | exact calm_of (HC.out _) | exact calm_add (HC.out _)))) | (refine wpQuiet_step (fun K hK => ?_); go_simp; go_ite <;> go_simp <;> (first | (refine hK _ ?_; clear hK K) | (apply Exists.intro; refine ⟨fun _ => ?_, hK _ ?_⟩; ((first | (go_at_call 50; exact calm_of (s_l1Num _ _ (by omega) (by omega))) | (go_at_call 49; first | exact calm_of (HC.out _) | exact calm_add (HC.out _)))); clear hK K))))); all_goals (refine wpQuiet_nil ?_; intro _ hw'; obtain ⟨gq, hw''⟩ := hw'; subst hw''))
  go_wp2_with fail
  go_ret
  exact ⟨ret_str rfl, by (repeat (first | with_reducible exact grew_refl _ | with_reducible assumption | with_reducible refine grew_split ?_ | with_reducible refine grew_mk ?_ | with_reducible refine grew_plus ?_ | with_reducible refine grew_alloc ?_ | with_reducible refine grew_drew ?_ | (with_reducible refine grew_set ?_ (by first | exact Nat.le_refl _ | omega | (simp [go_sem]; done) | (simp [go_sem]; omega)))))⟩
end Go.Proofs.YtfnbbmhhilffeaaDoor
