/- The reference's draws of numbers: pick, one, among. -/
import Derived.Test.YtjlaidjogladaaaDoorE4
namespace Go.Proofs.YtjlaidjogladaaaDoor
open Go.RowKit

/-- The cursor, at most M bytes on. -/
def CurU (w0 w : World) (g : Nat) (A : Option Addr) (c : Nat) (bs : List Int) (M : Int) : Prop := ∃ at_, Cur w0 w g A c bs at_ ∧ at_ ≤ M
/-- The code lies as it should. -/
structure Code0 (w0 : World) (A : Option Addr) (bs : List Int) : Prop where
  sl : Sl w0 1 byteRow A bs
  ok : ∀ x ∈ bs, 0 ≤ x ∧ x ≤ 255
  len : bs.length ≤ 1048576
theorem Cur.grew' {w0 w w' : World} {g : Nat} {A : Option Addr} {c : Nat} {bs : List Int} {a : Int} (h : Cur w0 w g A c bs a) (hg : ∃ x, w' = plus w x) : Cur w0 w' g A c bs a := by
  obtain ⟨x, rfl⟩ := hg
  exact ⟨grew_plus h.grew, h.far, by obtain ⟨s, hs⟩ := h.blk; exact ⟨s, hs.plus x⟩, h.pos⟩
theorem CurU.grew' {w0 w w' : World} {g : Nat} {A : Option Addr} {c : Nat} {bs : List Int} {M : Int} (h : CurU w0 w g A c bs M) (hg : ∃ x, w' = plus w x) : CurU w0 w' g A c bs M := by
  obtain ⟨a, h1, h2⟩ := h; exact ⟨a, h1.grew' hg, h2⟩
theorem CurU.le {w0 w : World} {g : Nat} {A : Option Addr} {c : Nat} {bs : List Int} {M M' : Int} (h : CurU w0 w g A c bs M) (hM : M ≤ M') : CurU w0 w g A c bs M' := by
  obtain ⟨a, h1, h2⟩ := h; exact ⟨a, h1, by omega⟩
theorem CurU.world {w0 w : World} {g : Nat} {A : Option Addr} {c : Nat} {bs : List Int} {M : Int} (h : CurU w0 w g A c bs M) : ∃ x, w = plus w0 x := by
  obtain ⟨a, h1, _⟩ := h; exact h1.grew
theorem s_nextU (w0 : World) (g : Nat) (A : Option Addr) (c : Nat) (bs : List Int) (M : Int) (w : World) (hA : Code0 w0 A bs) (hC : CurU w0 w g A c bs M) (h1 : M ≤ 1099511627776) :
    Calls Tryd.prog 44 #[.pointer (some ⟨g, 0, none⟩)] w fun e w' => (∃ x, e = .returned (.int .i64 x) ∧ 0 ≤ x ∧ x ≤ 255) ∧ CurU w0 w' g A c bs (M + 1) ∧ w.grownBy w' (some g) := by
  obtain ⟨a, hc, ha⟩ := hC
  exact (s_next w0 g A c bs a w hA.sl hA.ok hA.len hc (by omega)).mono fun e w' ⟨h2, h3, h4⟩ => ⟨h2, ⟨a + 1, h3, by omega⟩, h4⟩
set_option maxHeartbeats 2000000 in
theorem s_pick (w0 : World) (g : Nat) (A : Option Addr) (c : Nat) (bs : List Int) (M n : Int) (w : World) (hA : Code0 w0 A bs) (hC : CurU w0 w g A c bs M) (h1 : M ≤ 1099511627000) (h2 : n ≤ 1048576) :
    Calls Tryd.prog 36 #[.pointer (some ⟨g, 0, none⟩), .int .i64 n] w fun e w' => (∃ x, e = .returned (.int .i64 x) ∧ 0 ≤ x ∧ x < max 1 n) ∧ CurU w0 w' g A c bs (M + 2) ∧ w.grownBy w' (some g) := by
  have HC := hid hC
  clear hC
  by_cases hn : n ≤ 1
  · go_enter Tryd.func36, Tryd.ntmps36
    go_wp2_with fail
    go_ret
    exact ⟨⟨_, rfl, by omega, by omega⟩, HC.out.le (by omega), grown_refl _ _⟩
  have hn' : 1 < n := by omega
  by_cases h200 : n > 200
  · go_enter Tryd.func36, Tryd.ntmps36
    go_wp2_with fail
    refine (s_nextU w0 g A c bs M _ hA HC.out (by omega)).mono ?_
    rintro e w1 ⟨⟨x, rfl, x0, x1⟩, hC1, hG1⟩
    have HC1 := hid hC1
    have HG1 := hid hG1
    clear hC1 hG1
    go_wp2_with fail
    refine (s_nextU w0 g A c bs (M + 1) _ hA HC1.out (by omega)).mono ?_
    rintro e w2 ⟨⟨y, rfl, y0, y1⟩, hC2, hG2⟩
    have HC2 := hid hC2
    have HG2 := hid hG2
    clear hC2 hG2
    go_wp2_with fail
    go_ret
    exact ⟨⟨_, rfl, Int.emod_nonneg _ (by omega), Int.lt_of_lt_of_le (Int.emod_lt_of_pos _ (by omega)) (by omega)⟩, HC2.out.le (by omega), HG1.out.trans HG2.out⟩
  · go_enter Tryd.func36, Tryd.ntmps36
    go_wp2_with fail
    refine (s_nextU w0 g A c bs M _ hA HC.out (by omega)).mono ?_
    rintro e w1 ⟨⟨x, rfl, x0, x1⟩, hC1, hG1⟩
    have HC1 := hid hC1
    have HG1 := hid hG1
    clear hC1 hG1
    go_wp2_with fail
    go_ret
    exact ⟨⟨_, rfl, Int.emod_nonneg _ (by omega), Int.lt_of_lt_of_le (Int.emod_lt_of_pos _ (by omega)) (by omega)⟩, HC1.out.le (by omega), HG1.out⟩
set_option maxHeartbeats 1000000 in
theorem s_one (w0 : World) (g : Nat) (A : Option Addr) (c : Nat) (bs : List Int) (M n : Int) (w : World) (hA : Code0 w0 A bs) (hC : CurU w0 w g A c bs M) (h1 : M ≤ 1099511627000) (h2 : n ≤ 1048576) :
    Calls Tryd.prog 43 #[.pointer (some ⟨g, 0, none⟩), .int .i64 n] w fun e w' => (∃ b, e = .returned (.bool b)) ∧ CurU w0 w' g A c bs (M + 2) ∧ w.grownBy w' (some g) := by
  have HC := hid hC
  clear hC
  go_enter Tryd.func43, Tryd.ntmps43
  go_wp2_with fail
  refine (s_pick w0 g A c bs M n _ hA HC.out h1 h2).mono ?_
  rintro e w1 ⟨⟨x, rfl, x0, x1⟩, hC1, hG1⟩
  have HC1 := hid hC1
  have HG1 := hid hG1
  clear hC1 hG1
  go_wp2_with fail
  go_ret
  exact ⟨⟨_, rfl⟩, HC1.out, HG1.out⟩
theorem sl_kept {α : Type} {w w' : World} {s : Nat} {cells : α → List Value} {A : Option Addr} {l : List α} {g : Nat} (h : Sl w s cells A l) (hg : w.grownBy w' (some g)) (hne : ∀ a, A = some a → a.block ≠ g) : Sl w' s cells A l := by
  rcases h with h | ⟨b, off, hA, hlt, hc⟩
  · exact .inl h
  · have hb := hg.block b hlt (by intro e; injection e with e; exact hne _ hA e)
    exact .inr ⟨b, off, hA, Nat.lt_of_lt_of_le hlt hg.size, fun i hi j u hu => (World.cell?_of_block hb).trans (hc i hi j u hu)⟩
set_option maxHeartbeats 1000000 in
theorem s_among (w0 : World) (g : Nat) (A : Option Addr) (c : Nat) (bs : List Int) (M : Int) (l : List Int) (B : Option Addr) (d : Nat) (w : World) (hA : Code0 w0 A bs) (hC : CurU w0 w g A c bs M) (h1 : M ≤ 1099511627000) (hB : Sl w 1 intRow B l) (hne : ∀ a, B = some a → a.block ≠ g) (hl : 0 < l.length) (h2 : l.length ≤ 1048576) :
    Calls Tryd.prog 35 #[.pointer (some ⟨g, 0, none⟩), .slice B l.length d] w fun e w' => (∃ x, e = .returned (.int .i64 x) ∧ x ∈ l) ∧ CurU w0 w' g A c bs (M + 2) ∧ w.grownBy w' (some g) := by
  have HC := hid hC
  have HB := hid hB
  clear hC hB
  go_enter Tryd.func35, Tryd.ntmps35
  go_wp2_with fail
  refine (s_pick w0 g A c bs M l.length _ hA HC.out h1 (by omega)).mono ?_
  rintro e w1 ⟨⟨x, rfl, x0, x1⟩, hC1, hG1⟩
  obtain ⟨k, hk0⟩ : ∃ k : Nat, x = (k : Int) := ⟨x.toNat, by omega⟩
  subst hk0
  have hk : k < l.length := by omega
  obtain ⟨b, off, hBe, hb, hc⟩ := (sl_kept HB.out hG1 hne).at_ hk
  subst hBe
  have hc0 := icells hc hk
  have HC1 := hid hC1
  have HG1 := hid hG1
  clear hC1 hG1 hc hne
  go_wp2_with fail
  go_ret
  exact ⟨⟨_, rfl, List.getElem_mem hk⟩, HC1.out, HG1.out⟩
end Go.Proofs.YtjlaidjogladaaaDoor
