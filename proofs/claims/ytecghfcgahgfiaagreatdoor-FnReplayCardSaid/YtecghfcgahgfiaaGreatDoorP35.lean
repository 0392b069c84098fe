import Derived.Test.YtecghfcgahgfiaaGreatDoorP34
/- The reference's draws of lists of minutes. -/
namespace Go.Proofs.YtecghfcgahgfiaaGreatDoor
open Go.RowKit

theorem CurU.lt {w0 w : World} {g : Nat} {A : Option Addr} {c : Nat} {bs : List Int} {M : Int} (h : CurU w0 w g A c bs M) : g < w.heap.size := by
  obtain ⟨a, h1, _⟩ := h; obtain ⟨s, hs⟩ := h1.blk; exact hs.lt
theorem CurU.far {w0 w : World} {g : Nat} {A : Option Addr} {c : Nat} {bs : List Int} {M : Int} (h : CurU w0 w g A c bs M) : w0.heap.size ≤ g := by
  obtain ⟨a, h1, _⟩ := h; exact h1.far
/-- A block other than the cursor's is written: the cursor stays. -/
theorem CurU.kept {w0 w w' : World} {g : Nat} {A : Option Addr} {c : Nat} {bs : List Int} {M : Int} {row : Option Nat} (h : CurU w0 w g A c bs M) (hg : w.grownBy w' row) (hne : ∀ k, row = some k → k ≠ g ∧ w0.heap.size ≤ k) : CurU w0 w' g A c bs M := by
  obtain ⟨a, h1, h2⟩ := h
  refine ⟨a, ⟨grew_grown h1.grew hg (fun k hk => (hne k hk).2), h1.far, ?_, h1.pos⟩, h2⟩
  obtain ⟨s, hs⟩ := h1.blk
  exact ⟨s, hs.grown hg (fun e => (hne g e.symm).1 rfl)⟩
theorem sl_lit (w : World) (l : List Int) (cs : Array Value) (hcs : cs = (l.map (Value.int .i64)).toArray) (t : TypeId) : Sl (w.alloc (.cells cs t)) 1 intRow (some ⟨w.heap.size, 0, none⟩) l := by
  refine Sl.of_blk (Blk.new w t cs) ?_
  subst hcs
  intro i hi _ j u hu
  have hj := (List.getElem?_eq_some_iff.1 hu).1
  simp [intRow] at hj
  subst hj
  simp [intRow] at hu
  simp [hi, hu]
theorem own_far {α : Type} {B : Nat} {e : TypeId} {s : Nat} {cells : α → List Value} {w : World} {A : Option Addr} {c : Nat} {l : List α} (h : Own B e s cells w A c l) {k n d : Nat} (hk : (Value.slice A n d).ownBlock = some k) : B ≤ k := by
  obtain ⟨ad, h1, h2⟩ := own_some hk
  rw [← h2]; exact (h.ne ad h1).1
theorem Own.keptG {α : Type} {B : Nat} {e : TypeId} {s : Nat} {cells : α → List Value} {w w' : World} {A : Option Addr} {c g : Nat} {l : List α} (h : Own B e s cells w A c l) (hg : w.grownBy w' (some g)) (hgB : g < B) : Own B e s cells w' A c l := by
  refine World.ownsRow.kept h hg ?_
  cases hv : (Value.slice A l.length c).ownBlock with
  | none => exact .inl rfl
  | some k => exact .inr (by have := own_far h hv; intro e; injection e with e; omega)
theorem grown_join {w wa wb : World} {g : Nat} {row : Option Nat} (h1 : w.grownBy wa (some g)) (h2 : wa.grownBy wb row) (hr : ∀ k, row = some k → w.heap.size ≤ k) : w.grownBy wb (some g) :=
  ⟨h2.os.trans h1.os, h2.tape.trans h1.tape, h2.output.trans h1.output, Nat.le_trans h1.size h2.size, fun k hk hne => (h2.block k (Nat.lt_of_lt_of_le hk h1.size) (fun e => by have := hr k e.symm; omega)).trans (h1.block k hk hne)⟩
/-- One of some numbers that are written out. -/
theorem s_amongL (w0 : World) (g : Nat) (A : Option Addr) (c : Nat) (bs : List Int) (M : Int) (l : List Int) (cs : Array Value) (hcs : cs = (l.map (Value.int .i64)).toArray) (d b : Nat) (w : World) (hb : b = w.heap.size) (hA : Code0 w0 A bs) (hC : CurU w0 w g A c bs M) (h1 : M ≤ 1099511627000) (hl : 0 < l.length) (h2 : l.length ≤ 1048576) :
    Calls Tryz.prog 52 #[.pointer (some ⟨g, 0, none⟩), .slice (some ⟨b, 0, none⟩) l.length d] (w.alloc (.cells cs 3)) fun e w' => (∃ x, e = .returned (.int .i64 x) ∧ x ∈ l) ∧ CurU w0 w' g A c bs (M + 2) ∧ w.grownBy w' (some g) := by
  subst hb
  refine (s_among w0 g A c bs M l _ d _ hA (hC.grew' (by (repeat (first | with_reducible exact grew_refl _ | with_reducible assumption | with_reducible refine grew_split ?_ | with_reducible refine grew_mk ?_ | with_reducible refine grew_plus ?_ | with_reducible refine grew_alloc ?_ | with_reducible refine grew_drew ?_ | (with_reducible refine grew_set ?_ (by first | exact Nat.le_refl _ | omega | (simp [go_sem]; done) | (simp [go_sem]; omega))))))) h1 (sl_lit w l cs hcs _) (fun a ha => by injection ha with ha; subst ha; have := hC.lt; simp; omega) hl h2).mono ?_
  rintro e w' ⟨hx, hc, hg⟩
  exact ⟨hx, hc, (grown_of_grew (by (repeat (first | with_reducible exact grew_refl _ | with_reducible assumption | with_reducible refine grew_split ?_ | with_reducible refine grew_mk ?_ | with_reducible refine grew_plus ?_ | with_reducible refine grew_alloc ?_ | with_reducible refine grew_drew ?_ | (with_reducible refine grew_set ?_ (by first | exact Nat.le_refl _ | omega | (simp [go_sem]; done) | (simp [go_sem]; omega)))))) _).trans hg⟩
def slLen6 : Value → Nat
  | .slice _ n _ => n
  | _ => 0
theorem own_set0 {w : World} {B g : Nat} {t : TypeId} {cs : Array Value} {l : List Int} {x : Int} (hg : B ≤ g) (hB : Blk w g t cs) (hs : l.length * 1 ≤ cs.size) (hF : Filled cs 1 intRow l l.length) (hl : 0 < l.length) : OwnF B t 1 intRow (w.setCell ⟨g, 0, none⟩ (.int .i64 x)) (some ⟨g, 0, none⟩) (l.set 0 x) := by
  refine .inr ⟨g, _, rfl, hg, hB.set_ 0 (.int .i64 x), by simpa using hs, ?_⟩
  intro i hi _ j u hu
  have hi' : i < l.length := by simpa using hi
  have hj := (List.getElem?_eq_some_iff.1 hu).1
  simp [intRow] at hj
  subst hj
  have h0 := hF 0 hl hl 0 _ rfl
  have hlt := (Array.getElem?_eq_some_iff.1 h0).1
  rw [Array.getElem?_setIfInBounds]
  by_cases e : i = 0
  · subst e
    rw [if_pos (by omega), if_pos (by omega)]
    simpa [intRow] using hu
  · rw [if_neg (by omega)]
    rw [List.getElem_set_ne (by omega)] at hu
    exact hF i hi' hi' 0 u hu
set_option maxHeartbeats 4000000 in
set_option maxRecDepth 10000 in
theorem s_minutes25 (w0 : World) (g : Nat) (A : Option Addr) (c : Nat) (bs : List Int) (M : Int) (w : World) (hA : Code0 w0 A bs) (hC : CurU w0 w g A c bs M) (h1 : M ≤ 1099511620000) :
    Calls Tryz.prog 51 #[.pointer (some ⟨g, 0, none⟩)] w fun e w' => (∃ (B : Option Addr) (d : Nat) (l : List Int), e = .returned (.slice B l.length d) ∧ OwnF w.heap.size 3 1 intRow w' B l ∧ l.length ≤ 16) ∧ CurU w0 w' g A c bs (M + 100) ∧ w.grownBy w' (some g) := by
  have HC := hid hC
  have hgl := hC.lt
  have hgf := hC.far
  clear hC
  go_enter Tryz.func51, Tryz.ntmps51
  go_wp2_with fail
  refine (s_pick w0 g A c bs M 5 _ hA (HC.out.grew' (by (repeat (first | with_reducible exact grew_refl _ | with_reducible assumption | with_reducible refine grew_split ?_ | with_reducible refine grew_mk ?_ | with_reducible refine grew_plus ?_ | with_reducible refine grew_alloc ?_ | with_reducible refine grew_drew ?_ | (with_reducible refine grew_set ?_ (by first | exact Nat.le_refl _ | omega | (simp [go_sem]; done) | (simp [go_sem]; omega))))))) (by omega) (by omega)).mono ?_
  rintro e w1 ⟨⟨n, rfl, n0, n1⟩, hC1, hG1⟩
  have hO1 : Own w.heap.size 3 1 intRow w1 (some ⟨w.heap.size, 0, none⟩) 0 ([] : List Int) := by
    have h := Own.new (α := Int) (B := w.heap.size) (e := 3) (s := 1) (cells := intRow) (w := w) (o := .cells #[] 3) (b := w.heap.size) rfl rfl (Nat.le_refl _)
    exact World.ownsRow.kept h hG1 (.inr (by simp [Value.ownBlock]; omega))
  have hG1' := (grown_of_grew (w := w) (w' := w.alloc (.cells #[] 3)) (by (repeat (first | with_reducible exact grew_refl _ | with_reducible assumption | with_reducible refine grew_split ?_ | with_reducible refine grew_mk ?_ | with_reducible refine grew_plus ?_ | with_reducible refine grew_alloc ?_ | with_reducible refine grew_drew ?_ | (with_reducible refine grew_set ?_ (by first | exact Nat.le_refl _ | omega | (simp [go_sem]; done) | (simp [go_sem]; omega)))))) (some g)).trans hG1
  have HC1 := hid hC1
  have HG1 := hid hG1'
  have HO1 := hid hO1
  clear hC1 hG1 hG1' hO1
  go_wp2_with fail
  go_loopw [3, 4] (fun o n wr => ∃ (B : Option Addr) (d : Nat) (l : List Int) (m : Nat), o = .slice B l.length d ∧ n = .int .i64 m ∧ l.length + m ≤ 6 ∧ 1 ≤ l.length + m ∧ Own w.heap.size 3 1 intRow wr B d l ∧ CurU w0 wr g A c bs (M + 10 + 2 * l.length) ∧ w.grownBy wr (some g)) (fun _ n _ => (intOf n).toNat)
  case atStart => exact ⟨_, _, [], (1 + n).toNat, rfl, vint (by omega), by simp only [List.length_nil]; omega, by simp only [List.length_nil]; omega, HO1.out, HC1.out.le (by simp only [List.length_nil]; omega), HG1.out⟩
  case round =>
    obtain ⟨B, d, l, m, rfl, rfl, hl1, hl2, hO, hC, hG⟩ := hrel
    have HC := hid hC
    have HO := hid hO
    have HG := hid hG
    have hgl2 := hC.lt
    clear hC hO hG
    by_cases hm : 0 < m
    · go_wp2_with fail
      refine (s_amongL w0 g A c bs (M + 10 + 2 * l.length) [1, 20, 45, 60, 120, 300] _ rfl _ _ _ rfl hA HC.out (by omega) (by decide) (by decide)).mono ?_
      rintro e w2 ⟨⟨x, rfl, -⟩, hC2, hG2⟩
      have hO2 := HO.out.keptG hG2 hgl
      have hsz2 := (HG.out.trans hG2).size
      have HC2 := hid hC2
      have HG2 := hid (HG.out.trans hG2)
      have HO2 := hid hO2
      clear hC2 hG2 hO2
      go_wp2_with (at_builtin; go_loud (refine wpList_appB (B := w.heap.size) rfl _ _ _ rfl 3 1 8 _ Tryz.underlying47 int_info rfl (by omega) (by omega) B d l l.length rfl rfl (HO2.out.grew (by (repeat (first | with_reducible exact grew_refl _ | with_reducible assumption | with_reducible refine grew_split ?_ | with_reducible refine grew_mk ?_ | with_reducible refine grew_plus ?_ | with_reducible refine grew_alloc ?_ | with_reducible refine grew_drew ?_ | (with_reducible refine grew_set ?_ (by first | exact Nat.le_refl _ | omega | (simp [go_sem]; done) | (simp [go_sem]; omega))))))) (by simp; omega) (by omega) _ x _ rfl rfl (by intro j u hj; match j, hj with | 0, hj => simp [intRow] at hj; subst hj; simp [Addr.add, go_sem]) (by simp [intRow, Value.oneCell']) ?_); intro A3 c3 w3 hO3 hg3 hat3; have HO3 := hid hO3; have HC3 := hid ((HC2.out.grew' (by (repeat (first | with_reducible exact grew_refl _ | with_reducible assumption | with_reducible refine grew_split ?_ | with_reducible refine grew_mk ?_ | with_reducible refine grew_plus ?_ | with_reducible refine grew_alloc ?_ | with_reducible refine grew_drew ?_ | (with_reducible refine grew_set ?_ (by first | exact Nat.le_refl _ | omega | (simp [go_sem]; done) | (simp [go_sem]; omega))))))).kept hg3 (fun k hk => by have := own_far HO2.out hk; omega)); have HG3 := hid (grown_join (HG2.out.trans (grown_of_grew (by (repeat (first | with_reducible exact grew_refl _ | with_reducible assumption | with_reducible refine grew_split ?_ | with_reducible refine grew_mk ?_ | with_reducible refine grew_plus ?_ | with_reducible refine grew_alloc ?_ | with_reducible refine grew_drew ?_ | (with_reducible refine grew_set ?_ (by first | exact Nat.le_refl _ | omega | (simp [go_sem]; done) | (simp [go_sem]; omega)))))) _)) hg3 (fun k hk => own_far HO2.out hk)); clear hO3 hg3 hat3)
      go_roundw
      case rel => exact ⟨A3, c3, l ++ [x], m - 1, vsl (by simp), vint (by omega), by simp only [List.length_append, List.length_cons, List.length_nil]; omega, by simp only [List.length_append, List.length_cons, List.length_nil]; omega, HO3.out, HC3.out.le (by simp only [List.length_append, List.length_cons, List.length_nil]; omega), HG3.out⟩
      case measure => simp [intOf]; omega
    · obtain rfl : m = 0 := by omega
      go_wp2_with fail
      refine (s_pick w0 g A c bs (M + 10 + 2 * l.length) 48 _ hA (HC.out.grew' (by (repeat (first | with_reducible exact grew_refl _ | with_reducible assumption | with_reducible refine grew_split ?_ | with_reducible refine grew_mk ?_ | with_reducible refine grew_plus ?_ | with_reducible refine grew_alloc ?_ | with_reducible refine grew_drew ?_ | (with_reducible refine grew_set ?_ (by first | exact Nat.le_refl _ | omega | (simp [go_sem]; done) | (simp [go_sem]; omega))))))) (by omega) (by omega)).mono ?_
      rintro e w2 ⟨⟨y, rfl, y0, y1⟩, hC2, hG2⟩
      have hO2 := HO.out.keptG hG2 hgl
      have hsz2 := (HG.out.trans hG2).size
      have HC2 := hid hC2
      have HG2 := hid (HG.out.trans hG2)
      have HO2 := hid hO2
      clear hC2 hG2 hO2
      by_cases ye0 : y = 0
      · subst ye0
        go_wp2_with fail
        refine (s_amongL w0 g A c bs (M + 10 + 2 * l.length + 2) [0, 301] _ rfl _ _ _ rfl hA HC2.out (by omega) (by decide) (by decide)).mono ?_
        rintro e w3 ⟨⟨x, rfl, -⟩, hC3, hG3⟩
        have hO3 := HO2.out.keptG hG3 hgl
        have hG23 := HG2.out.trans hG3
        obtain he | ⟨hl0, g1, cs, rfl, hg1, hB1, hs1, hF1⟩ := (hO3.f intRow_len).split
        · subst he; simp at hl2
        have hc0 := hF1 0 hl0 hl0 0 _ rfl
        rw [Nat.zero_mul, Nat.add_zero] at hc0
        have hcell := (hB1.cell 0).trans hc0
        have hfro := hB1.frozen 0
        have hlt1 := hB1.lt
        have HB1 := hid hB1
        have HF1 := hid hF1
        have HC3 := hid hC3
        have HG3 := hid hG23
        have hlI : (0 : Int) < (l.length : Int) := by omega
        clear hC3 hG3 hG23 hO3 hB1 hF1 hc0
        go_wp2_with fail
        go_ret
        refine ⟨⟨some ⟨g1, 0, none⟩, d, l.set 0 x, by simp, own_set0 hg1 HB1.out hs1 HF1.out hl0, by rw [List.length_set]; omega⟩, (HC3.out.kept (grown_set (g := g1) (grown_refl _ _)) (fun k hk => by injection hk with hk; omega)).le (by omega), grown_join HG3.out (grown_set (g := g1) (grown_refl _ _)) (fun k hk => by injection hk with hk; omega)⟩
      by_cases ye1 : y = 1
      · subst ye1
        go_wp2_with fail
        go_loopw [3] (fun o wr => ∃ (B : Option Addr) (d : Nat) (l : List Int), o = .slice B l.length d ∧ l.length ≤ 10 ∧ Own w.heap.size 3 1 intRow wr B d l ∧ CurU w0 wr g A c bs (M + 40 + 2 * l.length) ∧ w.grownBy wr (some g)) (fun o _ => 16 - slLen6 o)
        case atStart => exact ⟨B, d, l, rfl, by omega, HO2.out, HC2.out.le (by omega), HG2.out⟩
        case round =>
          clear hl1 hl2 HO2 HC2 HG2 HC HO HG
          obtain ⟨B, d, l, rfl, hl1, hO, hC, hG⟩ := hrel
          have HC := hid hC
          have HO := hid hO
          have HG := hid hG
          clear hC hO hG
          go_wp2_with fail
          refine (s_pick w0 g A c bs _ 2 _ hA HC.out (by omega) (by omega)).mono ?_
          rintro e w3 ⟨⟨z, rfl, z0, z1⟩, hC3, hG3⟩
          have hO3 := HO.out.keptG hG3 hgl
          have hsz3 := (HG.out.trans hG3).size
          have HC3 := hid hC3
          have HG3 := hid (HG.out.trans hG3)
          have HO3 := hid hO3
          clear hC3 hG3 hO3
          by_cases hlz : (l.length : Int) < 8 + z
          · go_wp2_with (at_builtin; go_loud (refine wpList_appB (B := w.heap.size) rfl _ _ _ rfl 3 1 8 _ Tryz.underlying47 int_info rfl (by omega) (by omega) B d l l.length rfl rfl (HO3.out.grew (by (repeat (first | with_reducible exact grew_refl _ | with_reducible assumption | with_reducible refine grew_split ?_ | with_reducible refine grew_mk ?_ | with_reducible refine grew_plus ?_ | with_reducible refine grew_alloc ?_ | with_reducible refine grew_drew ?_ | (with_reducible refine grew_set ?_ (by first | exact Nat.le_refl _ | omega | (simp [go_sem]; done) | (simp [go_sem]; omega))))))) (by simp; omega) (by omega) _ 30 _ rfl rfl (by intro j u hj; match j, hj with | 0, hj => simp [intRow] at hj; subst hj; simp [Addr.add, go_sem]) (by simp [intRow, Value.oneCell']) ?_); intro A4 c4 w4 hO4 hg4 hat4; have HO4 := hid hO4; have HC4 := hid ((HC3.out.grew' (by (repeat (first | with_reducible exact grew_refl _ | with_reducible assumption | with_reducible refine grew_split ?_ | with_reducible refine grew_mk ?_ | with_reducible refine grew_plus ?_ | with_reducible refine grew_alloc ?_ | with_reducible refine grew_drew ?_ | (with_reducible refine grew_set ?_ (by first | exact Nat.le_refl _ | omega | (simp [go_sem]; done) | (simp [go_sem]; omega))))))).kept hg4 (fun k hk => by have := own_far HO3.out hk; omega)); have HG4 := hid (grown_join (HG3.out.trans (grown_of_grew (by (repeat (first | with_reducible exact grew_refl _ | with_reducible assumption | with_reducible refine grew_split ?_ | with_reducible refine grew_mk ?_ | with_reducible refine grew_plus ?_ | with_reducible refine grew_alloc ?_ | with_reducible refine grew_drew ?_ | (with_reducible refine grew_set ?_ (by first | exact Nat.le_refl _ | omega | (simp [go_sem]; done) | (simp [go_sem]; omega)))))) _)) hg4 (fun k hk => own_far HO3.out hk)); clear hO4 hg4 hat4)
            go_roundw
            case rel => exact ⟨A4, c4, l ++ [30], vsl (by simp), by simp only [List.length_append, List.length_cons, List.length_nil]; omega, HO4.out, HC4.out.le (by simp only [List.length_append, List.length_cons, List.length_nil]; omega), HG4.out⟩
            case measure => simp only [slLen6]; omega
          · go_wp2_with fail
            go_ret
            exact ⟨⟨B, d, l, rfl, HO3.out.f intRow_len, by omega⟩, HC3.out.le (by omega), HG3.out⟩
      by_cases ye2 : y = 2
      · subst ye2
        go_wp2_with fail
        go_ret
        refine ⟨⟨some ⟨w2.heap.size, 0, none⟩, 0, [], rfl, .inl rfl, by simp⟩, (HC2.out.grew' (by (repeat (first | with_reducible exact grew_refl _ | with_reducible assumption | with_reducible refine grew_split ?_ | with_reducible refine grew_mk ?_ | with_reducible refine grew_plus ?_ | with_reducible refine grew_alloc ?_ | with_reducible refine grew_drew ?_ | (with_reducible refine grew_set ?_ (by first | exact Nat.le_refl _ | omega | (simp [go_sem]; done) | (simp [go_sem]; omega))))))).le (by omega), HG2.out.trans (grown_of_grew (by (repeat (first | with_reducible exact grew_refl _ | with_reducible assumption | with_reducible refine grew_split ?_ | with_reducible refine grew_mk ?_ | with_reducible refine grew_plus ?_ | with_reducible refine grew_alloc ?_ | with_reducible refine grew_drew ?_ | (with_reducible refine grew_set ?_ (by first | exact Nat.le_refl _ | omega | (simp [go_sem]; done) | (simp [go_sem]; omega)))))) _)⟩
      · go_wp2_with fail
        go_ret
        exact ⟨⟨B, d, l, rfl, HO2.out.f intRow_len, by omega⟩, HC2.out.le (by omega), HG2.out⟩
end Go.Proofs.YtecghfcgahgfiaaGreatDoor
