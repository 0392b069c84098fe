/- Cutting and splitting texts, in both packages. -/
import Derived.Test.YtfnbbmhhilffeaaDoorG4
import Derived.Test.YtfnbbmhhilffeaaDoorMk
namespace Go.Proofs.YtfnbbmhhilffeaaDoor
open Go.RowKit

theorem ret_ssb {a b c d : ByteArray} {e f : Bool} (h : a = b) (h' : c = d) (h'' : e = f) : Ending.returned (.tuple #[.string a, .string c, .bool e]) = .returned (.tuple #[.string b, .string d, .bool f]) := by rw [h, h', h'']
theorem i_Cut (s : ByteArray) (b : UInt8) (w : World) (hs : s.size ≤ 4194304) (hE : Env w) :
    Calls Tryd.prog 59 #[.string s, .string ⟨#[b]⟩] w fun e w' => e = .returned (.tuple #[.string ⟨(cutB b (bl s)).1.toArray⟩, .string ⟨(cutB b (bl s)).2.1.toArray⟩, .bool (cutB b (bl s)).2.2]) ∧ ∃ g, w' = plus w g := by
  obtain ⟨m, hm⟩ := hE.mx
  have h := Tryd.strings_Cut s ⟨#[b]⟩ m w (by omega) hm
  have e1 : Go.Lib.cut (bl s) (bl ⟨#[b]⟩) = cutB b (bl s) := cut_one b (bl s)
  refine h.mono fun e w' ⟨he, n, hw⟩ => ⟨?_, ⟨#[], w.drawn + n⟩, ?_⟩
  · rw [he]
    change Ending.returned (.tuple #[.string ⟨(Go.Lib.cut (bl s) (bl ⟨#[b]⟩)).1.toArray⟩, .string ⟨(Go.Lib.cut (bl s) (bl ⟨#[b]⟩)).2.1.toArray⟩, .bool (Go.Lib.cut (bl s) (bl ⟨#[b]⟩)).2.2]) = _
    rw [e1]
  · rw [hw]; unfold plus World.drewN; rw [Array.append_empty]
/-- The pieces of a text between bytes, as far as k: what is done, and where the rest begins. -/
def splitTo (s : ByteArray) (b : UInt8) : Nat → List ByteArray × Nat
  | 0 => ([], 0)
  | k + 1 => if (bl s)[k]? = some b then ((splitTo s b k).1 ++ [s.extract (splitTo s b k).2 k], k + 1) else splitTo s b k
def splitV (s : ByteArray) (b : UInt8) : List ByteArray := (splitTo s b s.size).1 ++ [s.extract (splitTo s b s.size).2 s.size]
theorem splitTo_le (s : ByteArray) (b : UInt8) : ∀ k, (splitTo s b k).2 ≤ k ∧ (splitTo s b k).1.length ≤ k := by
  intro k
  induction k with
  | zero => simp [splitTo]
  | succ k ih =>
    simp only [splitTo]
    split
    · simp; omega
    · omega
theorem split_yes {s : ByteArray} {b : UInt8} {k : Nat} (hk : k < s.size) (h : s[k] = b) : splitTo s b (k + 1) = ((splitTo s b k).1 ++ [s.extract (splitTo s b k).2 k], k + 1) := by
  have e : (bl s)[k]? = some b := by rw [List.getElem?_eq_getElem (by rw [bl_len]; exact hk)]; subst h; rfl
  rw [splitTo, if_pos e]
theorem split_no {s : ByteArray} {b : UInt8} {k : Nat} (hk : k < s.size) (h : s[k] ≠ b) : splitTo s b (k + 1) = splitTo s b k := by
  have e : ¬ (bl s)[k]? = some b := by
    rw [List.getElem?_eq_getElem (by rw [bl_len]; exact hk)]
    intro h2; injection h2 with h2; exact h h2
  rw [splitTo, if_neg e]
theorem splitV_pos (s : ByteArray) (b : UInt8) : 0 < (splitV s b).length := by simp [splitV]
theorem splitV_len (s : ByteArray) (b : UInt8) : (splitV s b).length ≤ s.size + 1 := by
  have := (splitTo_le s b s.size).2
  simp [splitV]; omega
theorem ba_ext {a b : ByteArray} (h : bl a = bl b) : a = b := ByteArray.ext (Array.ext' h)
theorem bl_extract (s : ByteArray) (i j : Nat) : bl (s.extract i j) = ((bl s).drop i).take (j - i) := by
  simp [bl, ByteArray.data_extract]
/-- Where there is one, the first piece is what stands ahead of the first b. -/
theorem split_first (s : ByteArray) (b : UInt8) : ∀ k, k ≤ s.size → (splitTo s b k = ([], 0) ∧ ∀ c ∈ (bl s).take k, c ≠ b) ∨ (∃ j r, j < k ∧ (splitTo s b k).1 = s.extract 0 j :: r ∧ (cutB b (bl s)).1 = (bl s).take j ∧ (cutB b (bl s)).2.2 = true) := by
  intro k
  induction k with
  | zero => intro _; left; simp [splitTo]
  | succ k ih =>
    intro hk
    have hlt : k < s.size := by omega
    have ts := take_step s k hlt
    by_cases hb : s[k] = b
    · rw [split_yes hlt hb]
      rcases ih (by omega) with ⟨h1, h2⟩ | ⟨j, r, hj, h1, h2, h3⟩
      · right
        refine ⟨k, [], by omega, by rw [h1]; rfl, ?_⟩
        have hd : bl s = (bl s).take k ++ b :: (bl s).drop (k + 1) := by
          have h := List.take_append_drop (k + 1) (bl s)
          rw [ts, hb, List.append_assoc] at h
          exact h.symm
        have hc := cutB_app b ((bl s).take k) ((bl s).drop (k + 1)) h2
        rw [← hd] at hc
        rw [hc]; exact ⟨rfl, rfl⟩
      · right
        exact ⟨j, r ++ [s.extract (splitTo s b k).2 k], by omega, by rw [h1]; rfl, h2, h3⟩
    · rw [split_no hlt hb]
      rcases ih (by omega) with ⟨h1, h2⟩ | ⟨j, r, hj, h1, h2, h3⟩
      · left
        refine ⟨h1, ?_⟩
        rw [ts]
        intro c hc
        rcases List.mem_append.1 hc with hc | hc
        · exact h2 c hc
        · simp at hc; subst hc; exact hb
      · right; exact ⟨j, r, by omega, h1, h2, h3⟩
theorem split_head (s : ByteArray) (b : UInt8) : ∃ r, splitV s b = ⟨(cutB b (bl s)).1.toArray⟩ :: r ∧ (r = [] ↔ (cutB b (bl s)).2.2 = false) := by
  rcases split_first s b s.size (Nat.le_refl _) with ⟨h1, h2⟩ | ⟨j, r, hj, h1, h2, h3⟩
  · rw [take_all] at h2
    refine ⟨[], ?_, ?_⟩
    · rw [splitV, h1, cutB_none b _ h2]
      have : s.extract 0 s.size = s := ba_ext (by rw [bl_extract, List.drop_zero, Nat.sub_zero, take_all])
      rw [this]; rfl
    · rw [cutB_none b _ h2]; simp
  · refine ⟨r ++ [s.extract (splitTo s b s.size).2 s.size], ?_, ?_⟩
    · rw [splitV, h1, h2]
      have e : s.extract 0 j = ⟨((bl s).take j).toArray⟩ := ba_ext (by rw [bl_extract, List.drop_zero, Nat.sub_zero])
      rw [e]; rfl
    · rw [h3]; simp
def strRow (s : ByteArray) : List Value := [.string s]
theorem strRow_len (s : ByteArray) : (strRow s).length = 1 := rfl
theorem str_info : (Tryd.prog.info? 9).map (fun i => (i.zero, i.size, i.bytes)) = some (some (.string ByteArray.empty), 1, 16) := by kernel_rfl
theorem vstr {a b : ByteArray} (h : a = b) : Value.string a = Value.string b := by rw [h]
set_option maxHeartbeats 2000000 in
theorem s_l1Split (s : ByteArray) (b : UInt8) (n : Int) (hn : n = b.toNat) (w : World) (hs : s.size ≤ 4194304) :
    Calls Tryd.prog 54 #[.string s, .int .u8 n] w fun e w' => (∃ A c, e = .returned (.slice A (splitV s b).length c) ∧ Own w.heap.size 9 1 strRow w' A c (splitV s b)) ∧ ∃ g, w' = plus w g := by
  have HN := hid hn
  clear hn
  go_enter Tryd.func54, Tryd.ntmps54
  go_wp2_with fail
  go_loopw [5, 6, 7] (fun o f i wr => ∃ (k : Nat) (A : Option Addr) (c : Nat), k ≤ s.size ∧ i = .int .i64 k ∧ f = .int .i64 (splitTo s b k).2 ∧ o = .slice A (splitTo s b k).1.length c ∧ Own w.heap.size 9 1 strRow wr A c (splitTo s b k).1 ∧ ∃ g, wr = plus w g) (fun _ _ i _ => s.size - (intOf i).toNat)
  case atStart => exact ⟨0, _, _, Nat.zero_le _, rfl, rfl, rfl, Own.newIn (o := .cells #[] 9) (by (repeat (first | with_reducible exact grew_refl _ | with_reducible assumption | with_reducible refine grew_split ?_ | with_reducible refine grew_mk ?_ | with_reducible refine grew_plus ?_ | with_reducible refine grew_alloc ?_ | with_reducible refine grew_drew ?_ | (with_reducible refine grew_set ?_ (by first | exact Nat.le_refl _ | omega | (simp [go_sem]; done) | (simp [go_sem]; omega)))))) rfl rfl (Nat.le_refl _), by (repeat (first | with_reducible exact grew_refl _ | with_reducible assumption | with_reducible refine grew_split ?_ | with_reducible refine grew_mk ?_ | with_reducible refine grew_plus ?_ | with_reducible refine grew_alloc ?_ | with_reducible refine grew_drew ?_ | (with_reducible refine grew_set ?_ (by first | exact Nat.le_refl _ | omega | (simp [go_sem]; done) | (simp [go_sem]; omega)))))⟩
  case round =>
    obtain ⟨k, A, c, hk, rfl, rfl, rfl, hO, hg⟩ := hrel
    have HO := hid hO
    have HG := hid hg
    obtain ⟨f1, f2⟩ := splitTo_le s b k
    clear hO hg
    by_cases hlt : k < s.size
    · by_cases hb : s[k] = b
      · have h1 : ((s[k].toNat : Int) == n) = true := by rw [HN.out, hb]; simp
        have HS := hid (split_yes hlt hb)
        have hg := HG.out
        clear hb
        go_wp2_with (at_builtin; go_loud (refine wpList_app (w0 := w) rfl _ _ _ rfl 9 1 16 _ Tryd.underlying69 str_info rfl (by omega) (by omega) _ _ (splitTo s b k).1 rfl (HO.out.grew (by (repeat (first | with_reducible exact grew_refl _ | with_reducible assumption | with_reducible refine grew_split ?_ | with_reducible refine grew_mk ?_ | with_reducible refine grew_plus ?_ | with_reducible refine grew_alloc ?_ | with_reducible refine grew_drew ?_ | (with_reducible refine grew_set ?_ (by first | exact Nat.le_refl _ | omega | (simp [go_sem]; done) | (simp [go_sem]; omega))))))) (by (repeat (first | with_reducible exact grew_refl _ | with_reducible assumption | with_reducible refine grew_split ?_ | with_reducible refine grew_mk ?_ | with_reducible refine grew_plus ?_ | with_reducible refine grew_alloc ?_ | with_reducible refine grew_drew ?_ | (with_reducible refine grew_set ?_ (by first | exact Nat.le_refl _ | omega | (simp [go_sem]; done) | (simp [go_sem]; omega)))))) (by omega) _ (s.extract (splitTo s b k).2 k) _ rfl rfl (by intro j u hj; match j, hj with | 0, hj => simp [strRow] at hj; subst hj; simp [Addr.add, go_sem]) (by simp [strRow, Value.oneCell']) ?_); intro A1 c1 g1 HO1)
        go_roundw
        case rel => exact ⟨k + 1, A1, c1, by omega, by go_num, by rw [HS.out]; go_num, by rw [HS.out]; exact vsl (by simp), by rw [HS.out]; exact HO1, by (repeat (first | with_reducible exact grew_refl _ | with_reducible assumption | with_reducible refine grew_split ?_ | with_reducible refine grew_mk ?_ | with_reducible refine grew_plus ?_ | with_reducible refine grew_alloc ?_ | with_reducible refine grew_drew ?_ | (with_reducible refine grew_set ?_ (by first | exact Nat.le_refl _ | omega | (simp [go_sem]; done) | (simp [go_sem]; omega)))))⟩
        case measure => simp [intOf]; omega
      · have h1 : ((s[k].toNat : Int) == n) = false := by
          rw [HN.out, beq_eq_false_iff_ne]
          intro e
          exact hb (UInt8.toNat_inj.1 (by omega))
        have HS := hid (split_no hlt hb)
        have hg := HG.out
        clear hb
        go_wp2_with fail
        go_roundw
        case rel => exact ⟨k + 1, A, c, by omega, by go_num, by rw [HS.out], by rw [HS.out], by rw [HS.out]; exact HO.out, by (repeat (first | with_reducible exact grew_refl _ | with_reducible assumption | with_reducible refine grew_split ?_ | with_reducible refine grew_mk ?_ | with_reducible refine grew_plus ?_ | with_reducible refine grew_alloc ?_ | with_reducible refine grew_drew ?_ | (with_reducible refine grew_set ?_ (by first | exact Nat.le_refl _ | omega | (simp [go_sem]; done) | (simp [go_sem]; omega)))))⟩
        case measure => simp [intOf]; omega
    · obtain rfl : k = s.size := by omega
      have hg := HG.out
      go_wp2_with (at_builtin; go_loud (refine wpList_app (w0 := w) rfl _ _ _ rfl 9 1 16 _ Tryd.underlying69 str_info rfl (by omega) (by omega) _ _ (splitTo s b s.size).1 rfl (HO.out.grew (by (repeat (first | with_reducible exact grew_refl _ | with_reducible assumption | with_reducible refine grew_split ?_ | with_reducible refine grew_mk ?_ | with_reducible refine grew_plus ?_ | with_reducible refine grew_alloc ?_ | with_reducible refine grew_drew ?_ | (with_reducible refine grew_set ?_ (by first | exact Nat.le_refl _ | omega | (simp [go_sem]; done) | (simp [go_sem]; omega))))))) (by (repeat (first | with_reducible exact grew_refl _ | with_reducible assumption | with_reducible refine grew_split ?_ | with_reducible refine grew_mk ?_ | with_reducible refine grew_plus ?_ | with_reducible refine grew_alloc ?_ | with_reducible refine grew_drew ?_ | (with_reducible refine grew_set ?_ (by first | exact Nat.le_refl _ | omega | (simp [go_sem]; done) | (simp [go_sem]; omega)))))) (by omega) _ (s.extract (splitTo s b s.size).2 s.size) _ rfl rfl (by intro j u hj; match j, hj with | 0, hj => simp [strRow] at hj; subst hj; simp [Addr.add, go_sem]) (by simp [strRow, Value.oneCell']) ?_); intro A1 c1 g1 HO1)
      go_ret
      exact ⟨⟨A1, c1, by simp [splitV], HO1⟩, by (repeat (first | with_reducible exact grew_refl _ | with_reducible assumption | with_reducible refine grew_split ?_ | with_reducible refine grew_mk ?_ | with_reducible refine grew_plus ?_ | with_reducible refine grew_alloc ?_ | with_reducible refine grew_drew ?_ | (with_reducible refine grew_set ?_ (by first | exact Nat.le_refl _ | omega | (simp [go_sem]; done) | (simp [go_sem]; omega)))))⟩
end Go.Proofs.YtfnbbmhhilffeaaDoor
