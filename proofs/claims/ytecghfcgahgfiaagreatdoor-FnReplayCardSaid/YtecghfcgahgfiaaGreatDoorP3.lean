import Derived.Test.YtecghfcgahgfiaaGreatDoorP1
import Derived.Test.YtecghfcgahgfiaaGreatDoorP2
import Derived.Lib.SmallJoins
import Derived.Test.YtecghfcgahgfiaaGreatDoorProg
import Derived.Lib.IndexBytes
import Derived.Lib.IndexMore
/- Decimal numerals, in both packages. -/
namespace Go.Proofs.YtecghfcgahgfiaaGreatDoor
open Go.RowKit

theorem ret_str {a b : ByteArray} (h : a = b) : Ending.returned (.string a) = .returned (.string b) := by rw [h]
theorem ret_strb {a b : ByteArray} {c d : Bool} (h : a = b) (h' : c = d) : Ending.returned (.tuple #[.string a, .bool c]) = .returned (.tuple #[.string b, .bool d]) := by rw [h, h']

/-- The table that strconv reads lies where it should. -/
def Tab (w : World) : Prop := Go.Lib.TabIs Tryz.prog w tabN .u64 Go.Lib.pow10Tab
theorem gTab : Tryz.prog.globalNamed tabN = some 1 := by kernel_rfl
theorem Tab.grew {w w' : World} (h : Tab w) (hg : ∃ g, w' = plus w g) : Tab w' := Go.Joins.tab_stays gTab h (below_of_grew hg) (Nat.le_refl _)
theorem i_Itoa (n : Int) (w : World) (h0 : -9223372036854775808 ≤ n) (h1 : n ≤ 9223372036854775807) (hT : Tab w) :
    Calls Tryz.prog 47 #[.int .i64 n] w fun e w' => e = .returned (.string (num n)) ∧ ∃ g, w' = plus w g :=
  (Tryz.strconv_Itoa n h0 h1 w hT).mono fun _ _ ⟨he, k, os, hw⟩ => ⟨he, ⟨os, w.drawn + k⟩, hw⟩

theorem dig_fin : ∀ i : Fin 10, (ByteArray.mk [48, 49, 50, 51, 52, 53, 54, 55, 56, 57].toArray).extract i.val (i.val + 1) = ⟨#[UInt8.ofNat (48 + i.val)]⟩ := by decide +kernel
theorem dig_app {u : Nat} (h : ¬ u < 10) : (⟨(Go.Lib.decDigits (u / 10)).toArray⟩ : ByteArray) ++ (ByteArray.mk [48, 49, 50, 51, 52, 53, 54, 55, 56, 57].toArray).extract (u % 10) (u % 10 + 1) = ⟨(Go.Lib.decDigits u).toArray⟩ := by
  rw [dig_fin ⟨u % 10, by omega⟩]
  conv => rhs; rw [Go.Lib.decDigits, dif_neg h]
  exact ByteArray.mk_append_mk _ [UInt8.ofNat (48 + u % 10)]
set_option maxHeartbeats 1000000 in
theorem s_l1Num_nat (u : Nat) : ∀ (w : World), u ≤ 1000000000000 →
    Calls Tryz.prog 49 #[.int .i64 (u : Int)] w fun e w' => e = .returned (.string (num u)) ∧ ∃ g, w' = plus w g := by
  induction u using Nat.strongRecOn with
  | _ u ih =>
    intro w hu
    have IH := hid ih
    clear ih
    by_cases h10 : u < 10
    · have HF := hid (dig_fin ⟨u, h10⟩)
      go_enter Tryz.func49, Tryz.ntmps49
      go_wp2_with fail
      go_ret
      exact ⟨ret_str (by rw [num_nat, Go.Lib.decDigits_one h10]; exact HF.out), by (repeat (first | with_reducible exact grew_refl _ | with_reducible assumption | with_reducible refine grew_split ?_ | with_reducible refine grew_mk ?_ | with_reducible refine grew_plus ?_ | with_reducible refine grew_alloc ?_ | with_reducible refine grew_drew ?_ | (with_reducible refine grew_set ?_ (by first | exact Nat.le_refl _ | omega | (simp [go_sem]; done) | (simp [go_sem]; omega)))))⟩
    · have IH2 : Hid (∀ (x : Int) (W : World), 0 ≤ x → x < u → Calls Tryz.prog 49 #[.int .i64 x] W fun e w' => e = .returned (.string (num x)) ∧ ∃ g, w' = plus W g) := hid (by
        intro x W hx0 hx1
        obtain ⟨y, rfl⟩ := Int.eq_ofNat_of_zero_le hx0
        exact IH.out y (by omega) W (by omega))
      clear IH
      go_enter Tryz.func49, Tryz.ntmps49
      have m0 : (0 : Int) ≤ (u : Int) % 10 := by omega
      have m1 : (u : Int) % 10 < 10 := by omega
      have q0 : (0 : Int) ≤ (u : Int) / 10 := by omega
      have z1 := num_size ((u : Int) / 10) (by omega) (by omega)
      go_wp2_with fail
      (refine wp_region_calm (by kernel_rfl) (by kernel_rfl) ?_; (repeat' (first | go_big_quiet_step ((go_at_call 49; exact calm_of (IH2.out _ _ (by omega) (by omega)))) | (refine wpQuiet_step (fun K hK => ?_); go_simp; go_ite <;> go_simp <;> (first | (refine hK _ ?_; clear hK K) | (apply Exists.intro; refine ⟨fun _ => ?_, hK _ ?_⟩; ((go_at_call 49; exact calm_of (IH2.out _ _ (by omega) (by omega)))); clear hK K))))); all_goals (refine wpQuiet_nil ?_; intro _ hw'; obtain ⟨gq, hw''⟩ := hw'; subst hw''))
      go_wp2_with fail
      go_ret
      exact ⟨ret_str (by rw [(show ((u : Int) / 10) = ((u / 10 : Nat) : Int) from by omega), num_nat, num_nat]; exact dig_app h10), by (repeat (first | with_reducible exact grew_refl _ | with_reducible assumption | with_reducible refine grew_split ?_ | with_reducible refine grew_mk ?_ | with_reducible refine grew_plus ?_ | with_reducible refine grew_alloc ?_ | with_reducible refine grew_drew ?_ | (with_reducible refine grew_set ?_ (by first | exact Nat.le_refl _ | omega | (simp [go_sem]; done) | (simp [go_sem]; omega)))))⟩
theorem s_l1Num_pos (x : Int) (W : World) (h0 : 0 ≤ x) (h1 : x ≤ 1000000000000) : Calls Tryz.prog 49 #[.int .i64 x] W fun e w' => e = .returned (.string (num x)) ∧ ∃ g, w' = plus W g := by
  obtain ⟨y, rfl⟩ := Int.eq_ofNat_of_zero_le h0
  exact s_l1Num_nat y W (by omega)
theorem num_neg {n : Int} (h : n < 0) : (ByteArray.mk #[45]) ++ num (-n) = num n := by
  unfold num Go.Lib.itoa
  rw [if_neg (by omega), if_pos h, show (-n).toNat = n.natAbs by omega]
  exact ByteArray.mk_append_mk [45] _
set_option maxHeartbeats 1000000 in
theorem s_l1Num (n : Int) (w : World) (h0 : -1000000000000 ≤ n) (h1 : n ≤ 1000000000000) :
    Calls Tryz.prog 49 #[.int .i64 n] w fun e w' => e = .returned (.string (num n)) ∧ ∃ g, w' = plus w g := by
  by_cases hn : n < 0
  · have z1 := num_size (-n) (by omega) (by omega)
    go_enter Tryz.func49, Tryz.ntmps49
    go_wp2_with fail
    refine (s_l1Num_pos (-n) _ (by omega) (by omega)).mono ?_
    (rintro e w' ⟨rfl, gx, rfl⟩)
    go_wp2_with fail
    go_ret
    exact ⟨ret_str (num_neg hn), by (repeat (first | with_reducible exact grew_refl _ | with_reducible assumption | with_reducible refine grew_split ?_ | with_reducible refine grew_mk ?_ | with_reducible refine grew_plus ?_ | with_reducible refine grew_alloc ?_ | with_reducible refine grew_drew ?_ | (with_reducible refine grew_set ?_ (by first | exact Nat.le_refl _ | omega | (simp [go_sem]; done) | (simp [go_sem]; omega)))))⟩
  · obtain ⟨y, rfl⟩ := Int.eq_ofNat_of_zero_le (show 0 ≤ n by omega)
    exact s_l1Num_nat y w (by omega)
end Go.Proofs.YtecghfcgahgfiaaGreatDoor
/- The small functions of both packages (ranges, words, depths): what each returns. No condition but that a string has a length. -/
namespace Go.Proofs.YtecghfcgahgfiaaGreatDoor
open Go.RowKit

def inB (n lo hi : Int) : Bool := decide (lo ≤ n) && decide (n ≤ hi)
def lowB (c : UInt8) : Bool := decide (97 ≤ c.toNat) && decide (c.toNat ≤ 122)
def wordB (s : ByteArray) : Bool := s.data.toList.all lowB && inB s.size 1 10
theorem all_snoc (p : UInt8 → Bool) (s : ByteArray) (k : Nat) (h : k < s.size) : (s.data.toList.take (k + 1)).all p = ((s.data.toList.take k).all p && p s[k]) := by
  rw [List.take_succ_eq_append_getElem (by simpa using h)]; simp; rfl
theorem all_no (p : UInt8 → Bool) (s : ByteArray) (k : Nat) (h : k < s.size) (hn : p s[k] = false) : s.data.toList.all p = false := by
  rw [List.all_eq_false]
  exact ⟨s[k], by simp [ByteArray.getElem_eq_getElem_data], by simp [hn]⟩
theorem wordB_no (s : ByteArray) (k : Nat) (h : k < s.size) (hn : (s[k].toNat : Int) < 97 ∨ 122 < (s[k].toNat : Int)) : wordB s = false := by
  rw [wordB, all_no lowB s k h]; rfl
  simp only [lowB]; grind
theorem wordB_step (s : ByteArray) (k : Nat) (h : k < s.size) (hp : (s.data.toList.take k).all lowB = true) (h1 : 97 ≤ (s[k].toNat : Int)) (h2 : (s[k].toNat : Int) ≤ 122) : (s.data.toList.take (k + 1)).all lowB = true := by
  rw [all_snoc _ _ _ h, hp]; simp only [lowB]; grind
theorem wordB_end (s : ByteArray) (k : Nat) (h : ¬ k < s.size) (hp : (s.data.toList.take k).all lowB = true) : wordB s = inB s.size 1 10 := by
  rw [List.take_of_length_le (by simp; omega)] at hp
  rw [wordB, hp]; simp
theorem wordB_size {s : ByteArray} (h : wordB s = true) : s.size ≤ 10 := by
  simp only [wordB, inB, Bool.and_eq_true, decide_eq_true_eq] at h; omega




set_option maxHeartbeats 400000 in
theorem s_l1In (n lo hi : Int) (o : Bool) (ho : inB n lo hi = o) (w : World) :
    Calls Tryz.prog 99 #[.int .i64 n, .int .i64 lo, .int .i64 hi] w fun e w' => e = .returned (.bool o) ∧ w = w' := by
  subst ho
  go_enter Tryz.func99, Tryz.ntmps99
  go_wp2
  all_goals
    go_ret
    exact ⟨ret_bool (by simp only [inB]; grind), rfl⟩
set_option maxHeartbeats 400000 in
theorem i_inside (n lo hi : Int) (o : Bool) (ho : inB n lo hi = o) (w : World) :
    Calls Tryz.prog 58 #[.int .i64 n, .int .i64 lo, .int .i64 hi] w fun e w' => e = .returned (.bool o) ∧ w = w' := by
  subst ho
  go_enter Tryz.func58, Tryz.ntmps58
  go_wp2
  all_goals
    go_ret
    exact ⟨ret_bool (by simp only [inB]; grind), rfl⟩

end Go.Proofs.YtecghfcgahgfiaaGreatDoor
/- Which bytes a record may hold. No program in sight. -/
namespace Go.Proofs.YtecghfcgahgfiaaGreatDoor
open Go.RowKit

theorem all_no0 (p : UInt8 → Bool) (s : ByteArray) (k : Nat) (h : k < s.size) (hn : p s[k] = false) : s.data.toList.all p = false := by
  rw [List.all_eq_false]
  exact ⟨s[k], by simp [ByteArray.getElem_eq_getElem_data], by simp [hn]⟩
theorem all_snoc0 (p : UInt8 → Bool) (s : ByteArray) (k : Nat) (h : k < s.size) : (s.data.toList.take (k + 1)).all p = ((s.data.toList.take k).all p && p s[k]) := by
  rw [List.take_succ_eq_append_getElem (by simpa using h)]; simp; rfl
def plainC (c : UInt8) : Bool := decide (32 ≤ c.toNat) && decide (c.toNat ≤ 126) && !(c.toNat == 35)
def plainB (s : ByteArray) : Bool := s.data.toList.all plainC
def hasB (s : ByteArray) (c : UInt8) : Bool := s.data.toList.any fun b => b.toNat == c.toNat
theorem plainB_no (s : ByteArray) (k : Nat) (h : k < s.size) (hn : (s[k].toNat : Int) < 32 ∨ 126 < (s[k].toNat : Int) ∨ (s[k].toNat : Int) = 35) : plainB s = false :=
  all_no0 plainC s k h (by simp only [plainC]; grind)
theorem plainB_step (s : ByteArray) (k : Nat) (h : k < s.size) (hp : (s.data.toList.take k).all plainC = true) (h1 : 32 ≤ (s[k].toNat : Int)) (h2 : (s[k].toNat : Int) ≤ 126) (h3 : (s[k].toNat : Int) ≠ 35) : (s.data.toList.take (k + 1)).all plainC = true := by
  rw [all_snoc0 _ _ _ h, hp]; simp only [plainC]; grind
theorem plainB_end (s : ByteArray) (k : Nat) (h : ¬ k < s.size) (hp : (s.data.toList.take k).all plainC = true) : plainB s = true := by
  rw [List.take_of_length_le (by simp; omega)] at hp
  exact hp
theorem any_snoc (p : UInt8 → Bool) (s : ByteArray) (k : Nat) (h : k < s.size) : (s.data.toList.take (k + 1)).any p = ((s.data.toList.take k).any p || p s[k]) := by
  rw [List.take_succ_eq_append_getElem (by simpa using h)]; simp; rfl
theorem hasB_yes (s : ByteArray) (c : UInt8) (k : Nat) (h : k < s.size) (hn : (s[k].toNat : Int) = c.toNat) : hasB s c = true := by
  rw [hasB, List.any_eq_true]
  exact ⟨s[k], by simp [ByteArray.getElem_eq_getElem_data], by simp; omega⟩
theorem hasB_end (s : ByteArray) (c : UInt8) (k : Nat) (h : ¬ k < s.size) (hp : (s.data.toList.take k).any (fun b => b.toNat == c.toNat) = false) : hasB s c = false := by
  rw [List.take_of_length_le (by simp; omega)] at hp
  exact hp
theorem contains_has (s : ByteArray) (c : UInt8) : decide (0 ≤ Go.Lib.indexByte s.data.toList c) = hasB s c := by
  rw [Bool.eq_iff_iff, decide_eq_true_eq, hasB, List.any_eq_true]
  constructor
  · intro h
    obtain ⟨n, hn⟩ := Int.eq_ofNat_of_zero_le h
    have := (Go.Lib.indexByte_some hn).1
    exact ⟨c, List.mem_of_getElem? this, by simp⟩
  · rintro ⟨b, hb, he⟩
    have hbc : b = c := by simp at he; exact UInt8.toNat_inj.1 he
    subst hbc
    have hge := Go.Lib.indexByte_ge s.data.toList b
    by_cases h : Go.Lib.indexByte s.data.toList b = -1
    · obtain ⟨k, hk⟩ := List.mem_iff_getElem?.1 hb
      exact absurd hk (Go.Lib.indexByte_none h k)
    · omega

end Go.Proofs.YtecghfcgahgfiaaGreatDoor
/- Log records: which are valid, in both packages. -/
namespace Go.Proofs.YtecghfcgahgfiaaGreatDoor
open Go.RowKit

@[go_sem] theorem wrap64_byte (c : UInt8) : wrap64 (c.toNat : Int) = c.toNat := by
  have := c.toNat_lt; unfold wrap64; omega
theorem inB_lo {n : Int} (h : inB n 32 126 = true) : 32 ≤ n ∧ n ≤ 126 := by simpa [inB] using h
theorem inB_not {n : Int} (h : inB n 32 126 = false) : n < 32 ∨ 126 < n := by simp [inB] at h; omega
set_option maxHeartbeats 400000 in
theorem i_isPlain (s : ByteArray) (o : Bool) (ho : plainB s = o) (w : World) (hs : s.size ≤ maxLen) :
    Calls Tryz.prog 67 #[.string s] w fun e w' => e = .returned (.bool o) ∧ w = w' := by
  subst ho
  unfold maxLen at hs
  go_enter Tryz.func67, Tryz.ntmps67
  go_wp2_with fail
  go_loop [3] (fun i => ∃ k : Nat, k ≤ s.size ∧ i = .int .i64 k ∧ (s.data.toList.take k).all plainC = true) (fun i => s.size - (intOf i).toNat)
  case atStart => exact ⟨0, Nat.zero_le _, rfl, rfl⟩
  case round =>
    obtain ⟨k, hk, rfl, hall⟩ := hrel
    by_cases hlt : k < s.size
    · have H := hid hall
      clear hall
      go_wp2
      all_goals first
        | (go_roundw
           case rel => exact ⟨k + 1, by omega, by go_num, plainB_step s k hlt H.out (by grind) (by grind) (by grind)⟩
           case measure => simp [intOf]; omega)
        | (go_ret
           exact ⟨ret_bool (plainB_no s k hlt (by grind)).symm, rfl⟩)
    · have H := hid (plainB_end s k hlt hall)
      clear hall
      go_wp2
      go_ret
      exact ⟨ret_bool H.out.symm, rfl⟩
set_option maxHeartbeats 400000 in
theorem s_l27Plain (s : ByteArray) (m : Int) (o : Bool) (ho : (plainB s && decide ((s.size : Int) ≤ m)) = o) (w : World) (hs : s.size ≤ maxLen) :
    Calls Tryz.prog 76 #[.string s, .int .i64 m] w fun e w' => e = .returned (.bool o) ∧ w = w' := by
  subst ho
  unfold maxLen at hs
  go_enter Tryz.func76, Tryz.ntmps76
  go_wp2_with fail
  go_loop [5] (fun i => ∃ k : Nat, k ≤ s.size ∧ i = .int .i64 k ∧ (s.data.toList.take k).all plainC = true) (fun i => s.size - (intOf i).toNat)
  case atStart => exact ⟨0, Nat.zero_le _, rfl, rfl⟩
  case round =>
    obtain ⟨k, hk, rfl, hall⟩ := hrel
    by_cases hlt : k < s.size
    · have H := hid hall
      clear hall
      rcases hb : inB (s[k].toNat : Int) 32 126 with _ | _
      · have HB := hid hb
        go_wp2_with (go_at_call 99; refine (s_l1In _ _ _ _ hb _).mono ?_; (rintro e w' ⟨rfl, rfl⟩))
        go_ret
        exact ⟨ret_bool (by rw [plainB_no s k hlt (by have := inB_not HB.out; omega)]; rfl), rfl⟩
      · have HB := hid hb
        go_wp2_with (go_at_call 99; refine (s_l1In _ _ _ _ hb _).mono ?_; (rintro e w' ⟨rfl, rfl⟩))
        all_goals first
          | (go_roundw
             case rel => exact ⟨k + 1, by omega, by go_num, plainB_step s k hlt H.out (by have := inB_lo HB.out; omega) (by have := inB_lo HB.out; omega) (by grind)⟩
             case measure => simp [intOf]; omega)
          | (go_ret
             exact ⟨ret_bool (by rw [plainB_no s k hlt (by grind)]; rfl), rfl⟩)
    · have H := hid (plainB_end s k hlt hall)
      clear hall
      go_wp2
      go_ret
      exact ⟨ret_bool (by rw [H.out]; simp), rfl⟩
set_option maxHeartbeats 400000 in
theorem s_l1Stands (s : ByteArray) (c : UInt8) (b : Int) (hb : b = c.toNat) (o : Bool) (ho : hasB s c = o) (w : World) (hs : s.size ≤ maxLen) :
    Calls Tryz.prog 77 #[.string s, .int .u8 b] w fun e w' => e = .returned (.bool o) ∧ w = w' := by
  subst ho
  unfold maxLen at hs
  have HB := hid hb
  clear hb
  go_enter Tryz.func77, Tryz.ntmps77
  go_wp2_with fail
  go_loop [5] (fun i => ∃ k : Nat, k ≤ s.size ∧ i = .int .i64 k ∧ (s.data.toList.take k).any (fun b => b.toNat == c.toNat) = false) (fun i => s.size - (intOf i).toNat)
  case atStart => exact ⟨0, Nat.zero_le _, rfl, rfl⟩
  case round =>
    obtain ⟨k, hk, rfl, hall⟩ := hrel
    by_cases hlt : k < s.size
    · have H := hid hall
      clear hall
      go_wp2
      all_goals first
        | (go_roundw
           case rel => exact ⟨k + 1, by omega, by go_num, by rw [any_snoc _ _ _ hlt, H.out]; have := HB.out; grind⟩
           case measure => simp [intOf]; omega)
        | (go_ret
           exact ⟨ret_bool (hasB_yes s c k hlt (by have := HB.out; grind)).symm, rfl⟩)
    · have H := hid (hasB_end s c k hlt hall)
      clear hall
      go_wp2
      go_ret
      exact ⟨ret_bool H.out.symm, rfl⟩
end Go.Proofs.YtecghfcgahgfiaaGreatDoor
/- Cutting lists of bytes; the lines of a log. No program in sight. -/
namespace Go.Proofs.YtecghfcgahgfiaaGreatDoor
open Go.RowKit

abbrev Bytes := List UInt8
/-- What stands ahead of the first b, what stands behind it, and whether there is one. -/
def cutB (b : UInt8) : Bytes → Bytes × Bytes × Bool
  | [] => ([], [], false)
  | c :: r => if c = b then ([], r, true) else (c :: (cutB b r).1, (cutB b r).2.1, (cutB b r).2.2)
theorem cutB_app (b : UInt8) (x r : Bytes) (h : ∀ c ∈ x, c ≠ b) : cutB b (x ++ b :: r) = (x, r, true) := by
  induction x with
  | nil => simp [cutB]
  | cons c x ih => simp [cutB, h c (by simp), ih (fun d hd => h d (by simp [hd]))]
theorem cutB_none (b : UInt8) (x : Bytes) (h : ∀ c ∈ x, c ≠ b) : cutB b x = (x, [], false) := by
  induction x with
  | nil => simp [cutB]
  | cons c x ih => simp [cutB, h c (by simp), ih (fun d hd => h d (by simp [hd]))]
theorem cutB_free (b : UInt8) (s : Bytes) : ∀ c ∈ (cutB b s).1, c ≠ b := by
  induction s with
  | nil => simp [cutB]
  | cons c r ih =>
    simp only [cutB]
    split
    · simp
    · rename_i h
      intro d hd
      rcases List.mem_cons.1 hd with rfl | hd
      · exact h
      · exact ih d hd
theorem cutB_found (b : UInt8) (s : Bytes) (h : (cutB b s).2.2 = true) : s = (cutB b s).1 ++ b :: (cutB b s).2.1 := by
  induction s with
  | nil => simp [cutB] at h
  | cons c r ih =>
    simp only [cutB] at h ⊢
    split
    · rename_i hc; subst hc; simp
    · rename_i hc
      rw [if_neg hc] at h
      simp only [List.cons_append]
      rw [← ih h]
theorem cutB_miss (b : UInt8) (s : Bytes) (h : (cutB b s).2.2 = false) : cutB b s = (s, [], false) := by
  induction s with
  | nil => rfl
  | cons c r ih =>
    simp only [cutB] at h ⊢
    split
    · rename_i hc; rw [if_pos hc] at h; cases h
    · rename_i hc
      rw [if_neg hc] at h
      simp [ih h]
theorem cutB_len (b : UInt8) (s : Bytes) : (cutB b s).1.length ≤ s.length := by
  cases h : (cutB b s).2.2
  · rw [cutB_miss b s h]; exact Nat.le_refl _
  · have := congrArg List.length (cutB_found b s h)
    simp at this; omega
theorem cut_one (b : UInt8) (s : Bytes) : Go.Lib.cut s [b] = cutB b s := by
  induction s with
  | nil => simp [Go.Lib.cut, Go.Lib.index, cutB]
  | cons c r ih =>
    have hp : ([b] : Bytes).isPrefixOf (c :: r) = (b == c) := by simp [List.isPrefixOf]
    simp only [Go.Lib.cut, Go.Lib.index, hp, cutB] at ih ⊢
    by_cases h : c = b
    · subst h; simp
    · have hbc : (b == c) = false := by simp; exact fun e => h e.symm
      simp only [hbc, Bool.false_eq_true, if_false, h]
      rw [← ih]
      by_cases hm : Go.Lib.index r [b] = -1
      · simp [hm]
      · have h0 : 0 ≤ Go.Lib.index r [b] := by
          have := Go.Lib.index_ge r [b]; omega
        have h1 : (Go.Lib.index r [b] == -1) = false := by simp [hm]
        rw [h1]
        simp only [Bool.false_eq_true, if_false]
        rw [if_pos (by omega), if_pos h0]
        have e1 : (Go.Lib.index r [b] + 1).toNat = (Go.Lib.index r [b]).toNat + 1 := by omega
        rw [e1, Nat.add_right_comm]
        simp

theorem digit_bytes (u : Nat) : ∀ c ∈ Go.Lib.decDigits u, 48 ≤ c.toNat ∧ c.toNat ≤ 57 := by
  induction u using Nat.strongRecOn with
  | _ u ih =>
    intro c hc
    rw [Go.Lib.decDigits] at hc
    split at hc
    · simp at hc; subst hc; simp; omega
    · rcases List.mem_append.1 hc with hc | hc
      · exact ih (u / 10) (by omega) c hc
      · simp at hc; subst hc; simp; omega
theorem num_bytes (n : Int) (h : 0 ≤ n) : ∀ c ∈ Go.Lib.itoa n, 48 ≤ c.toNat ∧ c.toNat ≤ 57 := by
  unfold Go.Lib.itoa
  rw [if_neg (by omega)]
  exact digit_bytes _

/-- The checksum of a list of bytes. -/
def sumStep (h : Int) (c : UInt8) : Int := (41 * h + c.toNat + 1) % 999979
def sumL (s : Bytes) : Int := s.foldl sumStep 7
theorem sumL_snoc (s : Bytes) (c : UInt8) : sumL (s ++ [c]) = (41 * sumL s + c.toNat + 1) % 999979 := by simp [sumL, sumStep]
theorem sum_range (s : Bytes) : ∀ h : Int, 0 ≤ h → h < 999979 → 0 ≤ s.foldl sumStep h ∧ s.foldl sumStep h < 999979 := by
  induction s with
  | nil => intro h h0 h1; exact ⟨h0, h1⟩
  | cons c r ih => intro h h0 h1; rw [List.foldl_cons]; exact ih _ (by unfold sumStep; omega) (by unfold sumStep; omega)
theorem sumL_range (s : Bytes) : 0 ≤ sumL s ∧ sumL s < 999979 := sum_range s 7 (by omega) (by omega)

def textB (k : Nat) (c r : Bytes) : Bytes := Go.Lib.itoa k ++ 32 :: (c ++ 64 :: r)
def lineB (k : Nat) (c r : Bytes) : Bytes := textB k c r ++ 35 :: Go.Lib.itoa (sumL (textB k c r))
abbrev bl (s : ByteArray) : Bytes := s.data.toList
def recOk (c r : ByteArray) : Bool := inB c.size 1 160 && plainB c && !hasB c 64 && plainB r && decide ((r.size : Int) ≤ 200)
theorem bl_len (s : ByteArray) : (bl s).length = s.size := Array.length_toList
structure RecR where
  c : ByteArray
  r : ByteArray
def RecR.ok (e : RecR) : Bool := recOk e.c e.r
def RecR.line (e : RecR) (k : Nat) : Bytes := lineB k (bl e.c) (bl e.r)
def RecR.row (e : RecR) : List Value := [.string e.c, .string e.r]
/-- What a line tells, if it is the line of a record. -/
def fieldsB (line : Bytes) : RecR :=
  let q := cutB 64 (cutB 32 (cutB 35 line).1).2.1
  ⟨⟨q.1.toArray⟩, ⟨q.2.1.toArray⟩⟩
def recAt (line : Bytes) (k : Nat) : Option RecR := if (fieldsB line).ok && decide ((fieldsB line).line k = line) then some (fieldsB line) else none

theorem plain_bytes {s : ByteArray} (h : plainB s = true) : ∀ c ∈ bl s, 32 ≤ c.toNat ∧ c.toNat ≤ 126 ∧ c.toNat ≠ 35 := by
  intro c hc
  have := List.all_eq_true.1 h c hc
  simp only [plainC, Bool.and_eq_true, decide_eq_true_eq, Bool.not_eq_true', beq_eq_false_iff_ne] at this
  omega
theorem has_bytes {s : ByteArray} {b : UInt8} (h : hasB s b = false) : ∀ c ∈ bl s, c ≠ b := by
  intro c hc e
  subst e
  have : hasB s c = true := by rw [hasB, List.any_eq_true]; exact ⟨c, hc, by simp⟩
  rw [h] at this; cases this
theorem RecR.parts {e : RecR} (h : e.ok = true) : 1 ≤ e.c.size ∧ e.c.size ≤ 160 ∧ plainB e.c = true ∧ hasB e.c 64 = false ∧ plainB e.r = true ∧ e.r.size ≤ 200 := by
  simp only [RecR.ok, recOk, inB, Bool.and_eq_true, decide_eq_true_eq, Bool.not_eq_true'] at h
  obtain ⟨⟨⟨⟨h1, h2⟩, h3⟩, h4⟩, h5⟩ := h
  exact ⟨by omega, by omega, h2, h3, h4, by omega⟩
theorem text_free {e : RecR} (h : e.ok = true) (k : Nat) : ∀ c ∈ textB k (bl e.c) (bl e.r), c ≠ 35 ∧ c ≠ 10 := by
  obtain ⟨_, _, h1, _, h2, _⟩ := RecR.parts h
  have key : ∀ c : UInt8, 32 ≤ c.toNat → c.toNat ≠ 35 → c ≠ 35 ∧ c ≠ 10 := fun c a b => ⟨fun e => by subst e; exact b (by decide), fun e => by subst e; revert a; decide⟩
  intro c hc
  unfold textB at hc
  rcases List.mem_append.1 hc with hc | hc
  · have := num_bytes k (by omega) c hc; exact key c (by omega) (by omega)
  · rcases List.mem_cons.1 hc with rfl | hc
    · exact key 32 (by decide) (by decide)
    · rcases List.mem_append.1 hc with hc | hc
      · have := plain_bytes h1 c hc; exact key c (by omega) (by omega)
      · rcases List.mem_cons.1 hc with rfl | hc
        · exact key 64 (by decide) (by decide)
        · have := plain_bytes h2 c hc; exact key c (by omega) (by omega)
theorem line_free {e : RecR} (h : e.ok = true) (k : Nat) : ∀ c ∈ e.line k, c ≠ 10 := by
  intro c hc
  unfold RecR.line lineB at hc
  rcases List.mem_append.1 hc with hc | hc
  · exact (text_free h k c hc).2
  · rcases List.mem_cons.1 hc with rfl | hc
    · decide
    · have := num_bytes _ (sumL_range _).1 c hc
      intro e; subst e; revert this; decide
theorem bytes_mk (l : Bytes) : bl ⟨l.toArray⟩ = l := rfl
theorem mk_bytes (s : ByteArray) : (⟨(bl s).toArray⟩ : ByteArray) = s := rfl
theorem cut_text {e : RecR} (h : e.ok = true) (k : Nat) : (cutB 35 (e.line k)).1 = textB k (bl e.c) (bl e.r) := by
  unfold RecR.line lineB
  rw [cutB_app _ _ _ (fun c hc => (text_free h k c hc).1)]
theorem cut_num (k : Nat) (x : Bytes) : cutB 32 (Go.Lib.itoa k ++ 32 :: x) = (Go.Lib.itoa k, x, true) :=
  cutB_app _ _ _ fun c hc => by have := num_bytes k (by omega) c hc; intro e; subst e; revert this; decide
theorem cut_at {e : RecR} (h : e.ok = true) : cutB 64 (bl e.c ++ 64 :: bl e.r) = (bl e.c, bl e.r, true) :=
  cutB_app _ _ _ (has_bytes (RecR.parts h).2.2.2.1)
theorem fields_line {e : RecR} (h : e.ok = true) (k : Nat) : fieldsB (e.line k) = e := by
  unfold fieldsB
  rw [cut_text h k]
  unfold textB
  rw [cut_num, cut_at h]
theorem recAt_line {e : RecR} (h : e.ok = true) (k : Nat) : recAt (e.line k) k = some e := by
  simp [recAt, fields_line h k, h]
theorem recAt_some {line : Bytes} {k : Nat} {e : RecR} (h : recAt line k = some e) : e.ok = true ∧ e.line k = line := by
  unfold recAt at h
  split at h
  · rename_i hc
    simp only [Bool.and_eq_true, decide_eq_true_eq] at hc
    injection h with h
    subst h
    exact hc
  · cases h
theorem recAt_of {line : Bytes} {k : Nat} {e : RecR} (h : e.ok = true) (hl : e.line k = line) : recAt line k = some e := by subst hl; exact recAt_line h k
theorem recAt_none {line : Bytes} {k : Nat} (h : recAt line k = none) (e : RecR) (h1 : e.ok = true) : e.line k ≠ line := fun hl => by rw [recAt_of h1 hl] at h; cases h
theorem line_len {e : RecR} (h : e.ok = true) (k : Nat) (hk : k < 60) : (e.line k).length ≤ 371 := by
  obtain ⟨_, h1, _, _, _, h2⟩ := RecR.parts h
  have e1 := bl_len e.c
  have e2 := bl_len e.r
  have n1 : (Go.Lib.itoa k).length ≤ 2 := by
    unfold Go.Lib.itoa; rw [if_neg (by omega), Go.Lib.decDigits_length]
    exact nDigits_le 1 _ (by have e : (10 : Nat) ^ (1 + 1) = 100 := rfl; rw [e]; omega)
  have n2 : ∀ n : Int, 0 ≤ n → n < 999979 → (Go.Lib.itoa n).length ≤ 6 := fun n a b => by
    unfold Go.Lib.itoa; rw [if_neg (by omega), Go.Lib.decDigits_length]
    exact nDigits_le 5 _ (by have e : (10 : Nat) ^ (5 + 1) = 1000000 := rfl; rw [e]; omega)
  have n3 := n2 _ (sumL_range (textB k (bl e.c) (bl e.r))).1 (sumL_range (textB k (bl e.c) (bl e.r))).2
  unfold RecR.line lineB
  simp only [List.length_append, List.length_cons]
  generalize (Go.Lib.itoa (sumL (textB k (bl e.c) (bl e.r)))).length = q at n3
  simp only [textB, List.length_append, List.length_cons]
  omega

/-! ### Logs -/
/-- The record at the head of a text, with the number of its bytes. -/
def headB (s : Bytes) (k : Nat) : Option (RecR × Nat) := if (cutB 10 s).2.2 && decide (k < 60) then (recAt (cutB 10 s).1 k).map fun e => (e, (cutB 10 s).1.length + 1) else none
def opens : Nat → Bytes → Nat → List (RecR × Nat)
  | 0, _, _ => []
  | f + 1, s, k => match headB s k with
    | none => []
    | some (e, n) => (e, n) :: opens f (s.drop n) (k + 1)
def endOf (L : List (RecR × Nat)) : Nat := (L.map (·.2)).sum
def endAt (L : List (RecR × Nat)) (k : Nat) : Nat := endOf (L.take k)
def opensF (s : Bytes) : List (RecR × Nat) := opens 61 s 0
theorem drop_line {b : UInt8} {x r t : Bytes} (h : t = x ++ b :: r) : t.drop (x.length + 1) = r := by
  subst h
  induction x with
  | nil => rfl
  | cons c x ih => simp
theorem headB_some {s : Bytes} {k : Nat} {e : RecR} {n : Nat} (h : headB s k = some (e, n)) : k < 60 ∧ e.ok = true ∧ n = (e.line k).length + 1 ∧ s = e.line k ++ 10 :: s.drop n := by
  unfold headB at h
  split at h
  · rename_i hc
    simp only [Bool.and_eq_true, decide_eq_true_eq] at hc
    obtain ⟨hf, hk⟩ := hc
    cases hr : recAt (cutB 10 s).1 k with
    | none => rw [hr] at h; cases h
    | some e' =>
      rw [hr] at h
      simp only [Option.map_some, Option.some.injEq, Prod.mk.injEq] at h
      obtain ⟨rfl, rfl⟩ := h
      obtain ⟨h1, h2⟩ := recAt_some hr
      have h3 := cutB_found 10 s hf
      refine ⟨hk, h1, by rw [h2], ?_⟩
      have h4 : s.drop ((cutB 10 s).1.length + 1) = (cutB 10 s).2.1 := drop_line h3
      rw [h4, h2]; exact h3
  · cases h
theorem headB_line {e : RecR} {k : Nat} (h : e.ok = true) (hk : k < 60) (r : Bytes) : headB (e.line k ++ 10 :: r) k = some (e, (e.line k).length + 1) := by
  unfold headB
  rw [cutB_app _ _ _ (line_free h k)]
  simp [hk, recAt_line h k]
theorem headB_full {s : Bytes} {k : Nat} (h : 60 ≤ k) : headB s k = none := by
  unfold headB
  rw [show decide (k < 60) = false by simp; omega]; simp
theorem headB_lt {s : Bytes} {k : Nat} {e : RecR} {n : Nat} (h : headB s k = some (e, n)) : 0 < n ∧ n ≤ s.length ∧ n ≤ 372 := by
  obtain ⟨hk, ho, hn, hs⟩ := headB_some h
  have := line_len ho k hk
  have h2 := congrArg List.length hs
  simp at h2
  omega
end Go.Proofs.YtecghfcgahgfiaaGreatDoor
/- The records of a log: where they end. No program in sight. -/
namespace Go.Proofs.YtecghfcgahgfiaaGreatDoor
open Go.RowKit

theorem opens_succ_none {f : Nat} {s : Bytes} {k : Nat} (h : headB s k = none) : opens (f + 1) s k = [] := by rw [opens, h]
theorem opens_succ_some {f : Nat} {s : Bytes} {k : Nat} {e : RecR} {n : Nat} (h : headB s k = some (e, n)) : opens (f + 1) s k = (e, n) :: opens f (s.drop n) (k + 1) := by rw [opens, h]
theorem endAt_zero (L : List (RecR × Nat)) : endAt L 0 = 0 := rfl
theorem endAt_cons (x : RecR × Nat) (L : List (RecR × Nat)) (j : Nat) : endAt (x :: L) (j + 1) = x.2 + endAt L j := by simp [endAt, endOf]
theorem endOf_nil : endOf [] = 0 := rfl
theorem endOf_cons (x : RecR × Nat) (L : List (RecR × Nat)) : endOf (x :: L) = x.2 + endOf L := by simp [endOf]
theorem endAt_len (L : List (RecR × Nat)) : endAt L L.length = endOf L := by simp [endAt]
theorem endAt_succ {L : List (RecR × Nat)} {j : Nat} (h : j < L.length) : endAt L (j + 1) = endAt L j + L[j].2 := by
  unfold endAt endOf
  rw [List.take_succ_eq_append_getElem h, List.map_append, List.sum_append]; simp
theorem opens_get : ∀ (f : Nat) (s : Bytes) (k j : Nat), j ≤ (opens f s k).length → 61 ≤ f + k → headB (s.drop (endAt (opens f s k) j)) (k + j) = (opens f s k)[j]? := by
  intro f
  induction f with
  | zero =>
    intro s k j hj hf
    simp only [opens, List.length_nil, Nat.le_zero] at hj
    subst hj
    rw [headB_full (by omega)]; rfl
  | succ f ih =>
    intro s k j hj hf
    cases h : headB s k with
    | none =>
      rw [opens_succ_none h] at hj ⊢
      simp only [List.length_nil, Nat.le_zero] at hj
      subst hj
      simpa [endAt_zero] using h
    | some p =>
      obtain ⟨e, n⟩ := p
      rw [opens_succ_some h] at hj ⊢
      cases j with
      | zero => simpa [endAt_zero] using h
      | succ j =>
        rw [endAt_cons, ← List.drop_drop, Nat.add_comm j 1, ← Nat.add_assoc, Nat.add_comm 1 j]
        rw [ih (s.drop n) (k + 1) j (by simpa using hj) (by omega)]
        rfl
theorem opens_le : ∀ (f : Nat) (s : Bytes) (k : Nat), (opens f s k).length ≤ 60 - k := by
  intro f
  induction f with
  | zero => intro s k; simp [opens]
  | succ f ih =>
    intro s k
    cases h : headB s k with
    | none => rw [opens_succ_none h]; simp
    | some p =>
      obtain ⟨e, n⟩ := p
      rw [opens_succ_some h]
      have := ih (s.drop n) (k + 1)
      have := (headB_some h).1
      simp only [List.length_cons]
      omega
theorem opens_end : ∀ (f : Nat) (s : Bytes) (k : Nat), endOf (opens f s k) ≤ s.length := by
  intro f
  induction f with
  | zero => intro s k; simp [opens, endOf]
  | succ f ih =>
    intro s k
    cases h : headB s k with
    | none => rw [opens_succ_none h]; simp [endOf]
    | some p =>
      obtain ⟨e, n⟩ := p
      rw [opens_succ_some h, endOf_cons]
      have := ih (s.drop n) (k + 1)
      have h2 := headB_lt h
      simp only [List.length_drop] at this
      show n + _ ≤ _
      omega
theorem opens_mem : ∀ (f : Nat) (s : Bytes) (k : Nat), ∀ x ∈ opens f s k, x.1.ok = true ∧ 0 < x.2 ∧ x.2 ≤ 372 := by
  intro f
  induction f with
  | zero => intro s k x hx; simp [opens] at hx
  | succ f ih =>
    intro s k x hx
    cases h : headB s k with
    | none => rw [opens_succ_none h] at hx; simp at hx
    | some p =>
      obtain ⟨e, n⟩ := p
      rw [opens_succ_some h] at hx
      rcases List.mem_cons.1 hx with rfl | hx
      · have := headB_lt h
        exact ⟨(headB_some h).2.1, this.1, this.2.2⟩
      · exact ih _ _ x hx
theorem endOf_bound (L : List (RecR × Nat)) (h : ∀ x ∈ L, x.2 ≤ 372) : endOf L ≤ 372 * L.length := by
  induction L with
  | nil => simp [endOf]
  | cons x r ih =>
    rw [endOf_cons, List.length_cons]
    have := ih (fun y hy => h y (by simp [hy]))
    have := h x (by simp)
    omega
theorem endAt_bound (L : List (RecR × Nat)) (h : ∀ x ∈ L, x.2 ≤ 372) (j : Nat) : endAt L j ≤ 372 * j := by
  have := endOf_bound (L.take j) (fun x hx => h x (List.mem_of_mem_take hx))
  have := List.length_take_le j L
  unfold endAt
  omega
theorem endAt_mono (L : List (RecR × Nat)) (j : Nat) : endAt L j ≤ endOf L := by
  have h : endOf L = endAt L j + endOf (L.drop j) := by
    unfold endAt endOf
    rw [← List.sum_append, ← List.map_append, List.take_append_drop]
  omega
theorem endOf_pos {L : List (RecR × Nat)} {j : Nat} (hj : j < L.length) {x : RecR × Nat} {r : List (RecR × Nat)} (hL : L = x :: r) : x.2 ≤ endAt L (j + 1) := by
  subst hL; rw [endAt_cons]; omega
theorem cutB_join (D P : Bytes) (h : (cutB 10 D).2.2 = true) : (cutB 10 (D ++ P)).1 = (cutB 10 D).1 ∧ (cutB 10 (D ++ P)).2.2 = true := by
  have h1 := cutB_found 10 D h
  have h2 : cutB 10 (D ++ P) = ((cutB 10 D).1, (cutB 10 D).2.1 ++ P, true) := by
    conv => lhs; rw [h1]
    rw [List.append_assoc, List.cons_append]
    exact cutB_app _ _ _ (cutB_free 10 D)
  rw [h2]; exact ⟨rfl, rfl⟩
theorem headB_join {D P : Bytes} {k : Nat} (h : (cutB 10 D).2.2 = true) : headB (D ++ P) k = headB D k := by
  obtain ⟨h1, h2⟩ := cutB_join D P h
  unfold headB
  rw [h1, h2, h]
theorem headB_miss {D : Bytes} {k : Nat} (h : (cutB 10 D).2.2 = false) : headB D k = none := by unfold headB; rw [h]; simp
theorem headB_far {D P : Bytes} {k n : Nat} {e : RecR} (h : (cutB 10 D).2.2 = false) (hh : headB (D ++ P) k = some (e, n)) : D.length < n := by
  obtain ⟨hk, ho, hn, hs⟩ := headB_some hh
  have hD : ∀ c ∈ D, c ≠ 10 := by
    have := cutB_free 10 D
    rw [cutB_miss 10 D h] at this
    exact this
  rcases Nat.lt_or_ge D.length n with h1 | h1
  · exact h1
  · exfalso
    have hmem : (10 : UInt8) ∈ D := by
      have e1 : (D ++ P)[(e.line k).length]? = some 10 := by
        rw [hs, List.getElem?_append_right (by omega)]; simp
      rw [List.getElem?_append_left (by omega)] at e1
      exact List.mem_of_getElem? e1
    exact hD 10 hmem rfl
/-- Where the log is cut: at an end of a record just if the part ahead is records throughout. -/
theorem ends_prefix : ∀ (f : Nat) (D P : Bytes) (k : Nat), (∃ j, j ≤ (opens f (D ++ P) k).length ∧ endAt (opens f (D ++ P) k) j = D.length) ↔ endOf (opens f D k) = D.length := by
  intro f
  induction f with
  | zero =>
    intro D P k
    simp only [opens, List.length_nil, Nat.le_zero, endOf_nil]
    constructor
    · rintro ⟨j, rfl, h⟩; exact h
    · intro h; exact ⟨0, rfl, h⟩
  | succ f ih =>
    intro D P k
    cases hc : (cutB 10 D).2.2
    · rw [opens_succ_none (headB_miss (k := k) hc), endOf_nil]
      cases h : headB (D ++ P) k with
      | none =>
        rw [opens_succ_none h]
        simp only [List.length_nil, Nat.le_zero]
        constructor
        · rintro ⟨j, rfl, h⟩; exact h
        · intro h; exact ⟨0, rfl, h⟩
      | some p =>
        obtain ⟨e, n⟩ := p
        have hn := headB_far hc h
        rw [opens_succ_some h]
        constructor
        · rintro ⟨j, hj, he⟩
          cases j with
          | zero => exact he
          | succ j => rw [endAt_cons] at he; exact absurd he (by show n + _ ≠ _; omega)
        · intro h0; exact ⟨0, Nat.zero_le _, h0⟩
    · have hj : headB (D ++ P) k = headB D k := headB_join hc
      cases h : headB D k with
      | none =>
        rw [opens_succ_none h, opens_succ_none (hj.trans h)]
        simp only [List.length_nil, Nat.le_zero, endOf_nil]
        constructor
        · rintro ⟨j, rfl, h⟩; exact h
        · intro h; exact ⟨0, rfl, h⟩
      | some p =>
        obtain ⟨e, n⟩ := p
        obtain ⟨hn0, hn1, _⟩ := headB_lt h
        rw [opens_succ_some h, opens_succ_some (hj.trans h), List.drop_append_of_le_length hn1, endOf_cons]
        have hI := ih (D.drop n) P (k + 1)
        rw [List.length_drop] at hI
        constructor
        · rintro ⟨j, hj, he⟩
          cases j with
          | zero => rw [endAt_zero] at he; omega
          | succ j =>
            rw [endAt_cons] at he
            have := hI.1 ⟨j, by simpa using hj, by simp only at he; omega⟩
            show n + _ = _
            omega
        · intro h0
          obtain ⟨j, h1, h2⟩ := hI.2 (by simp only at h0; omega)
          exact ⟨j + 1, by simpa using h1, by rw [endAt_cons]; show n + _ = _; omega⟩
/-- Whether a log is whole. -/
def logB (D P : Bytes) (n : Int) : Bool := decide (endOf (opensF (D ++ P)) = (D ++ P).length) && decide (((opensF (D ++ P)).length : Int) = n) && decide (endOf (opensF D) = D.length)
theorem opensF_len (s : Bytes) : (opensF s).length ≤ 60 := opens_le 61 s 0
theorem opensF_end (s : Bytes) : endOf (opensF s) ≤ s.length ∧ endOf (opensF s) ≤ 22320 := by
  have h1 := opens_end 61 s 0
  have h2 := endOf_bound (opensF s) (fun x hx => (opens_mem 61 s 0 x hx).2.2)
  have h3 := opensF_len s
  exact ⟨h1, by omega⟩
theorem opensF_get (s : Bytes) {j : Nat} (h : j ≤ (opensF s).length) : headB (s.drop (endAt (opensF s) j)) j = (opensF s)[j]? := by
  have := opens_get 61 s 0 j h (by omega)
  rwa [Nat.zero_add] at this
end Go.Proofs.YtecghfcgahgfiaaGreatDoor
