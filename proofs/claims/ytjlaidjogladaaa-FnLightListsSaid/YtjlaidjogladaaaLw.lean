/- The reference's draw of a list of lights. -/
import Derived.Test.YtjlaidjogladaaaLu
import Derived.Test.YtjlaidjogladaaaLi6
namespace Go.Proofs.Ytjlaidjogladaaa
open Go.RowKit

attribute [local go_sem ↓] Go.wp_at_zero Go.wp_at_succ
/-- A list of drawn lights. -/
structure LtsO (B : Nat) (w : World) (A : Option Addr) (L : List LightV) : Prop where
  ls : OwnF B 55 6 LightV.row w A L
  ph : ∀ u ∈ L, OwnF B 68 2 PhaseR.row w u.A u.core.ph
  sz : ∀ u ∈ L, u.core.nm.size ≤ 20 ∧ 0 < u.core.ph.length ∧ u.core.ph.length ≤ 12
section
variable {B : Nat} {w w' : World} {A : Option Addr} {L : List LightV}
theorem LtsO.kept {row : Option Nat} (h : LtsO B w A L) (hg : w.grownBy w' row) (hr : ∀ k, row = some k → k < B) : LtsO B w' A L :=
  ⟨h.ls.kept hg hr, fun u hu => (h.ph u hu).kept hg hr, h.sz⟩
theorem LtsO.grew (h : LtsO B w A L) (hg : ∃ g, w' = plus w g) : LtsO B w' A L := ⟨h.ls.grew hg, fun u hu => (h.ph u hu).grew hg, h.sz⟩
theorem LtsO.less {B' : Nat} (h : LtsO B w A L) (hB : B' ≤ B) : LtsO B' w A L := ⟨h.ls.less hB, fun u hu => (h.ph u hu).less hB, h.sz⟩
theorem LtsO.lts (h : LtsO B w A L) : Lts w A L :=
  ⟨h.ls.sl, fun u hu => ⟨(h.ph u hu).sl, by have := (h.sz u hu).1; unfold maxLen; omega, by have := (h.sz u hu).2.2; unfold maxLen; omega⟩⟩
theorem ownF_apart {α : Type} {B : Nat} {e t : TypeId} {s : Nat} {cells : α → List Value} {w w' : World} {A : Option Addr} {l : List α} {k : Nat} {cs : Array Value} (h : OwnF B e s cells w A l) (hb : Blk w k t cs) (hne : t ≠ e) (hg : w.grownBy w' (some k)) : OwnF B e s cells w' A l := by
  rcases h with h | ⟨g, cur, hA, hB, hK, r⟩
  · exact .inl h
  · exact .inr ⟨g, cur, hA, hB, hK.grown hg (fun e => by injection e with e; exact blk_ne hb hK hne e.symm), r⟩
/-- Another light's box is written. -/
theorem LtsO.box {gb bx : Nat} {cs : Array Value} (h : LtsO B w (some ⟨gb, 0, none⟩) L) (hb : Blk w bx 55 cs) (hne : gb ≠ bx) (hg : w.grownBy w' (some bx)) : LtsO B w' (some ⟨gb, 0, none⟩) L := by
  refine ⟨?_, fun u hu => ownF_apart (h.ph u hu) hb (by decide) hg, h.sz⟩
  rcases h.ls with h | ⟨g, cur, hA, hB, hK, r⟩
  · exact .inl h
  · injection hA with hA
    injection hA with hA
    subst hA
    exact .inr ⟨gb, cur, rfl, hB, hK.grown hg (fun e => by injection e with e; exact hne e), r⟩
theorem LtsO.snoc {v : LightV} {A' : Option Addr} (h : LtsO B w A L) (hl : OwnF B 55 6 LightV.row w A' (L ++ [v])) (hv : OwnF B 68 2 PhaseR.row w v.A v.core.ph) (hz : v.core.nm.size ≤ 20 ∧ 0 < v.core.ph.length ∧ v.core.ph.length ≤ 12) : LtsO B w A' (L ++ [v]) := by
  refine ⟨hl, fun u hu => ?_, fun u hu => ?_⟩
  · rcases List.mem_append.1 hu with hu | hu
    · exact h.ph u hu
    · simp at hu; subst hu; exact hv
  · rcases List.mem_append.1 hu with hu | hu
    · exact h.sz u hu
    · simp at hu; subst hu; exact hz
end
theorem LightV.one (v : LightV) : ∀ u ∈ v.row, u.oneCell' = true := by
  intro u hu
  simp [LightV.row] at hu
  rcases hu with rfl | rfl | rfl | rfl | rfl | rfl <;> rfl
theorem light_news {w : World} {b : Nat} {t : TypeId} {v : LightV} (h : Blk w b t #[.int .i64 (v).core.id, .string (v).core.nm, .int .i64 (v).core.x, .int .i64 (v).core.y, .int .i64 (v).core.range, .slice (v).A (v).core.ph.length (v).c]) : ∀ j u, (LightV.row v)[j]? = some u → w.cell? (Addr.add ⟨b, 0, none⟩ j) = some u := by
  intro j u hu
  have hj := (List.getElem?_eq_some_iff.1 hu).1
  simp [LightV.row] at hj
  match j, hj with
  | 0, _ => have hc := h.cell 0; simp [LightV.row] at hu; subst hu; simpa [Addr.add, go_sem] using hc
  | 1, _ => have hc := h.cell 1; simp [LightV.row] at hu; subst hu; simpa [Addr.add, go_sem] using hc
  | 2, _ => have hc := h.cell 2; simp [LightV.row] at hu; subst hu; simpa [Addr.add, go_sem] using hc
  | 3, _ => have hc := h.cell 3; simp [LightV.row] at hu; subst hu; simpa [Addr.add, go_sem] using hc
  | 4, _ => have hc := h.cell 4; simp [LightV.row] at hu; subst hu; simpa [Addr.add, go_sem] using hc
  | 5, _ => have hc := h.cell 5; simp [LightV.row] at hu; subst hu; simpa [Addr.add, go_sem] using hc
theorem own_zero {α : Type} {B b : Nat} {e : TypeId} {s : Nat} {cells : α → List Value} {w : World} (h : Blk w b e #[]) (hB : B ≤ b) : Own B e s cells w (some ⟨b, 0, none⟩) 0 ([] : List α) :=
  ⟨by simp, .inr ⟨b, 0, #[], rfl, hB, h, by simp, by unfold maxLen; omega, by simp, by simp⟩⟩
theorem own_newsF {α : Type} {B gb : Nat} {e : TypeId} {s : Nat} {cells : α → List Value} {w : World} {l : List α} (h : OwnF B e s cells w (some ⟨gb, 0, none⟩) l) : ∀ i (hi : i < l.length) j u, (cells l[i])[j]? = some u → w.cell? ⟨gb, 0 + i * s + j, none⟩ = some u := by
  intro i hi j u hu
  rcases h with h | ⟨g, cs, hA, hB, hK, hz, hF⟩
  · subst h; simp at hi
  · injection hA with hA
    injection hA with hA
    subst hA
    rw [hK.cell, Nat.zero_add]
    exact hF i hi hi j u hu
theorem two_ownF {B b : Nat} {w : World} {x y : PhaseR} (h : Blk w b 68 #[.bool x.lit, .int .i64 x.tenths, .bool y.lit, .int .i64 y.tenths]) (hB : B ≤ b) : OwnF B 68 2 PhaseR.row w (some ⟨b, 0, none⟩) [x, y] := by
  refine .inr ⟨b, _, rfl, hB, h, by simp, ?_⟩
  intro i hi _ j u hu
  match i, hi with
  | 0, _ => match j, hu with
    | 0, hu => simpa [PhaseR.row] using hu
    | 1, hu => simpa [PhaseR.row] using hu
  | 1, _ => match j, hu with
    | 0, hu => simpa [PhaseR.row] using hu
    | 1, hu => simpa [PhaseR.row] using hu
theorem ownF_own {α β : Type} {B B' : Nat} {e e' : TypeId} {s s' : Nat} {cells : α → List Value} {cells' : β → List Value} {w w' : World} {A A' : Option Addr} {c' n d : Nat} {l : List α} {l' : List β} (h : OwnF B e s cells w A l) (h2 : Own B' e' s' cells' w A' c' l') (hne : e ≠ e') (hg : w.grownBy w' (Value.slice A' n d).ownBlock) : OwnF B e s cells w' A l := by
  rcases h with h | ⟨g, cur, hA, hB, hK, r⟩
  · exact .inl h
  · exact .inr ⟨g, cur, hA, hB, blk_keptD hK h2 hne hg, r⟩
theorem back_bL (W : World) (v : Nat) (hv : v < 256) (x : Int) (hx : x = (v : Int)) : (convert 34 9 (.slice (some ⟨W.heap.size, 0, none⟩) 1 1)).run Try.prog (W.alloc (.cells #[.int .u8 x] 5)) = .ok (.string ⟨#[UInt8.ofNat v]⟩) (W.alloc (.cells #[.int .u8 x] 5)) := by
  refine run_convert_bytes_back _ _ _ _ ⟨W.heap.size, 0, none⟩ 1 [UInt8.ofNat v] Try.underlying34 Try.underlying5 Try.underlying9 (fun j hj => ?_)
  have hj0 : j = 0 := by simpa using hj
  subst hj0
  subst hx
  have h := (Blk.new W 5 #[.int .u8 (v : Int)]).cell 0
  have e : (UInt8.ofNat v).toNat = v := by rw [UInt8.toNat_ofNat']; omega
  simp only [List.getElem_cons_zero, e]
  simp [Addr.add]
def LsR (w0 w : World) (g : Nat) (A : Option Addr) (c : Nat) (bs : List Int) (M : Int) (o : Value) (n : Nat) (wx : World) : Prop :=
  ∃ (gb d : Nat) (L : List LightV), o = .slice (some ⟨gb, 0, none⟩) L.length d ∧ L.length ≤ n ∧ L.length ≤ d ∧ LtsO w.heap.size wx (some ⟨gb, 0, none⟩) L ∧ gb < wx.heap.size ∧ CurU w0 wx g A c bs M ∧ w.grownBy wx (some g)
def LsB (w0 w : World) (g : Nat) (A : Option Addr) (c : Nat) (bs : List Int) (M : Int) (gb bx : Nat) (L : List LightV) (wx : World) : Prop :=
  LtsO w.heap.size wx (some ⟨gb, 0, none⟩) L ∧ (∃ v : LightV, Blk wx bx 55 #[.int .i64 (v).core.id, .string (v).core.nm, .int .i64 (v).core.x, .int .i64 (v).core.y, .int .i64 (v).core.range, .slice (v).A (v).core.ph.length (v).c] ∧ OwnF w.heap.size 68 2 PhaseR.row wx v.A v.core.ph ∧ v.core.nm.size ≤ 20 ∧ 0 < v.core.ph.length ∧ v.core.ph.length ≤ 12) ∧ gb < wx.heap.size ∧ CurU w0 wx g A c bs M ∧ w.grownBy wx (some g)
theorem light_inf : (Try.prog.info? 55).map (fun i => (i.zero, i.size, i.bytes)) = some (some (.agg #[.int .i64 0, .string ByteArray.empty, .int .i64 0, .int .i64 0, .int .i64 0, .slice none 0 0]), 6, 72) := by kernel_rfl
set_option maxHeartbeats 8000000 in
set_option maxRecDepth 100000 in
theorem s_lights (w0 : World) (g : Nat) (A : Option Addr) (c : Nat) (bs : List Int) (M : Int) (w : World) (hA : Code0 w0 A bs) (hC : CurU w0 w g A c bs M) (h1 : M ≤ 1099511600000) :
    Calls Try.prog 43 #[.pointer (some ⟨g, 0, none⟩)] w fun e w' => (∃ (B : Option Addr) (d : Nat) (L : List LightV), e = .returned (.slice B L.length d) ∧ L.length ≤ 12 ∧ L.length ≤ d ∧ LtsO w.heap.size w' B L) ∧ CurU w0 w' g A c bs (M + 3000) ∧ w.grownBy w' (some g) := by
  have HC := hid hC
  have hgl := hC.lt
  have hgf := hC.far
  clear hC
  go_enter Try.func43, Try.ntmps43
  go_wp2_with fail
  refine (s_pick w0 g A c bs _ 6 _ hA (HC.out.grew' (by (repeat (first | with_reducible exact grew_refl _ | with_reducible assumption | with_reducible refine grew_split ?_ | with_reducible refine grew_mk ?_ | with_reducible refine grew_plus ?_ | with_reducible refine grew_alloc ?_ | with_reducible refine grew_drew ?_ | (with_reducible refine grew_set ?_ (by first | exact Nat.le_refl _ | omega | (simp [go_sem]; done) | (simp [go_sem]; omega))))))) (by omega) (by omega)).mono ?_
  rintro e w1 ⟨⟨n', rfl, n0, n1⟩, hC1, hG1⟩
  obtain ⟨n, hn0⟩ : ∃ k : Nat, n' = (k : Int) := ⟨n'.toNat, by omega⟩
  subst hn0
  have hn5 : n ≤ 5 := by omega
  have HL1 := hid (show LsR w0 w g A c bs (M + 2) (.slice (some ⟨w.heap.size, 0, none⟩) 0 0) 0 w1 from ⟨w.heap.size, 0, [], rfl, by simp, by simp, ⟨.inl rfl, fun u hu => absurd hu (by simp), fun u hu => absurd hu (by simp)⟩, by have h := hG1.size; simp at h; omega, hC1, (grown_of_grew (by (repeat (first | with_reducible exact grew_refl _ | with_reducible assumption | with_reducible refine grew_split ?_ | with_reducible refine grew_mk ?_ | with_reducible refine grew_plus ?_ | with_reducible refine grew_alloc ?_ | with_reducible refine grew_drew ?_ | (with_reducible refine grew_set ?_ (by first | exact Nat.le_refl _ | omega | (simp [go_sem]; done) | (simp [go_sem]; omega)))))) _).trans hG1⟩)
  clear hC1 hG1 n0 n1
  go_wp2_with fail
  go_loopw [3, 4, 5] (fun o q i wr => ∃ (k : Nat) (id : Int), k ≤ n ∧ i = .int .i64 ((n - k : Nat) : Int) ∧ q = .int .i64 id ∧ 0 ≤ id ∧ id ≤ 3 * (k : Int) ∧ LsR w0 w g A c bs (M + 2 + 220 * (k : Int)) o k wr) (fun _ _ i _ => (intOf i).toNat)
  case atStart => exact ⟨0, 0, by omega, rfl, rfl, by omega, by omega, by simpa using HL1.out⟩
  case round =>
    clear HL1
    obtain ⟨k, id, hk, rfl, rfl, id0, id1, gb, d, L, rfl, hLn, hLd, hO, hgb, hC, hG⟩ := hrel
    have HO := hid hO
    have HC := hid hC
    have HG := hid hG
    clear hO hC hG
    by_cases hlt : k < n
    · have hpos : (0 : Int) < ((n - k : Nat) : Int) := by omega
      have hsub : IntKind.i64.wrap (((n - k : Nat) : Int) - 1) = ((n - (k + 1) : Nat) : Int) := by rw [IntWalk.i64_in _ (by omega)]; omega
      go_upto_block 1 with fail
      go_cut [3, 4] (fun o q wx => ∃ id' : Int, q = .int .i64 id' ∧ 0 ≤ id' ∧ id' ≤ 3 * (k : Int) + 3 ∧ LsR w0 w g A c bs (M + 2 + 220 * (k : Int) + 220) o (k + 1) wx)
      case first =>
        go_wp2_with fail
        refine (s_pick w0 g A c bs _ 3 _ hA (HC.out.grew' (by (repeat (first | with_reducible exact grew_refl _ | with_reducible assumption | with_reducible refine grew_split ?_ | with_reducible refine grew_mk ?_ | with_reducible refine grew_plus ?_ | with_reducible refine grew_alloc ?_ | with_reducible refine grew_drew ?_ | (with_reducible refine grew_set ?_ (by first | exact Nat.le_refl _ | omega | (simp [go_sem]; done) | (simp [go_sem]; omega))))))) (by omega) (by omega)).mono ?_
        rintro e w2 ⟨⟨z, rfl, z0, z1'⟩, hC2, hG2⟩
        have z1 : z ≤ 2 := by omega
        have HC2 := hid hC2
        have HO2 := hid (HO.out.kept hG2 (fun k hk => by injection hk with hk; omega))
        have hgb2 : gb < w2.heap.size := Nat.lt_of_lt_of_le hgb hG2.size
        have HG2 := hid (HG.out.trans hG2)
        clear hC2 hG2 HO HC HG z1'
        go_wp2_with fail
        refine (s_light w0 g A c bs _ _ _ hA (HC2.out.grew' (by (repeat (first | with_reducible exact grew_refl _ | with_reducible assumption | with_reducible refine grew_split ?_ | with_reducible refine grew_mk ?_ | with_reducible refine grew_plus ?_ | with_reducible refine grew_alloc ?_ | with_reducible refine grew_drew ?_ | (with_reducible refine grew_set ?_ (by first | exact Nat.le_refl _ | omega | (simp [go_sem]; done) | (simp [go_sem]; omega))))))) (by omega)).mono ?_
        rintro e w3 ⟨⟨v, rfl, hv1, hv2, hv3, hv4⟩, hC3, hG3⟩
        have hz3 := HG2.out.size
        have HV3 := hid (hv4.less (B' := w.heap.size) hz3)
        have HC3 := hid hC3
        have HO3 := hid (HO2.out.kept hG3 (fun k hk => by injection hk with hk; omega))
        have hgb3 : gb < w3.heap.size := Nat.lt_of_lt_of_le hgb2 hG3.size
        have HG3 := hid (HG2.out.trans hG3)
        clear hC3 hG3 HO2 HC2 HG2 hv4
        go_upto_region 8 with fail
        generalize hbx : w3.heap.size = bx
        have hbw : w.heap.size ≤ bx := by rw [← hbx]; exact HG3.out.size
        have hgx : gb ≠ bx := by omega
        refine opq_wp (fun wx => LsB w0 w g A c bs (M + 2 + 220 * (k : Int) + 210) gb bx L wx) ⟨HO3.out.grew (by (repeat (first | with_reducible exact grew_refl _ | with_reducible assumption | with_reducible refine grew_split ?_ | with_reducible refine grew_mk ?_ | with_reducible refine grew_plus ?_ | with_reducible refine grew_alloc ?_ | with_reducible refine grew_drew ?_ | (with_reducible refine grew_set ?_ (by first | exact Nat.le_refl _ | omega | (simp [go_sem]; done) | (simp [go_sem]; omega)))))), ⟨v, blk_new hbx.symm, HV3.out.grew (by (repeat (first | with_reducible exact grew_refl _ | with_reducible assumption | with_reducible refine grew_split ?_ | with_reducible refine grew_mk ?_ | with_reducible refine grew_plus ?_ | with_reducible refine grew_alloc ?_ | with_reducible refine grew_drew ?_ | (with_reducible refine grew_set ?_ (by first | exact Nat.le_refl _ | omega | (simp [go_sem]; done) | (simp [go_sem]; omega)))))), hv1, hv2, hv3⟩, by first | (simp [go_sem]; omega) | omega, (HC3.out.grew' (by (repeat (first | with_reducible exact grew_refl _ | with_reducible assumption | with_reducible refine grew_split ?_ | with_reducible refine grew_mk ?_ | with_reducible refine grew_plus ?_ | with_reducible refine grew_alloc ?_ | with_reducible refine grew_drew ?_ | (with_reducible refine grew_set ?_ (by first | exact Nat.le_refl _ | omega | (simp [go_sem]; done) | (simp [go_sem]; omega))))))).le (by omega), HG3.out.trans (grown_of_grew (by (repeat (first | with_reducible exact grew_refl _ | with_reducible assumption | with_reducible refine grew_split ?_ | with_reducible refine grew_mk ?_ | with_reducible refine grew_plus ?_ | with_reducible refine grew_alloc ?_ | with_reducible refine grew_drew ?_ | (with_reducible refine grew_set ?_ (by first | exact Nat.le_refl _ | omega | (simp [go_sem]; done) | (simp [go_sem]; omega)))))) _)⟩ ?_
        clear HO3 HV3 HC3 HG3 hv1 hv2 hv3 hbx hgb hgb2 hgb3 hz3
        rintro wq hLB
        have HLB := hid hLB
        clear hLB
        go_cut [30] (fun t wx => ∃ q : Bool, t = .bool q ∧ (q = true → 0 < L.length) ∧ LsB w0 w g A c bs (M + 2 + 220 * (k : Int) + 212) gb bx L wx)
        case first =>
          obtain ⟨hO, ⟨v, hB, hV, hv1, hv2, hv3⟩, hgb, hC, hG⟩ := HLB.out
          have HO := hid hO
          have HB := hid hB
          have HV := hid hV
          have HC := hid hC
          have HG := hid hG
          clear HLB hO hB hV hC hG
          by_cases h0 : 0 < L.length
          · have hpI : (0 : Int) < (L.length : Int) := by omega
            go_wp2_with fail
            refine (s_one w0 g A c bs _ 3 _ hA HC.out (by omega) (by omega)).mono ?_
            rintro e w4 ⟨⟨q, rfl⟩, hC4, hG4⟩
            have hgb4 : gb < w4.heap.size := Nat.lt_of_lt_of_le hgb hG4.size
            have HL4 := hid (show LsB w0 w g A c bs (M + 2 + 220 * (k : Int) + 212) gb bx L w4 from ⟨HO.out.kept hG4 (fun k hk => by injection hk with hk; omega), ⟨v, HB.out.grown hG4 (fun e => by injection e with e; omega), HV.out.kept hG4 (fun k hk => by injection hk with hk; omega), hv1, hv2, hv3⟩, hgb4, hC4.le (by omega), HG.out.trans hG4⟩)
            clear hC4 hG4
            go_wp2_with fail
            go_meet
            exact ⟨q, rfl, fun _ => h0, HL4.out⟩
          · have hLe : L = [] := List.eq_nil_of_length_eq_zero (by omega)
            subst hLe
            go_wp2_with fail
            go_meet
            exact ⟨false, rfl, fun h => (by cases h), HO.out, ⟨v, HB.out, HV.out, hv1, hv2, hv3⟩, hgb, HC.out.le (by omega), HG.out⟩
        case rest =>
          obtain ⟨q, rfl, hq, hLB⟩ := hcut
          have HLB := hid hLB
          clear hLB
          go_upto_if 30 with fail
          go_cut [31] (fun _ wx => LsB w0 w g A c bs (M + 2 + 220 * (k : Int) + 212) gb bx L wx)
          case first =>
            cases q
            · go_wp2_with fail
              go_meet
              exact HLB.out
            · have hpL := hq rfl
              obtain ⟨hO, ⟨v, hB, hV, hv1, hv2, hv3⟩, hgb, hC, hG⟩ := HLB.out
              have HO := hid hO
              have HV := hid hV
              have HC := hid hC
              have HG := hid hG
              obtain ⟨b', off, e, hb', hcl⟩ := hO.ls.sl.at_ hpL
              injection e with e
              injection e with e1 e2
              subst e1 e2
              obtain ⟨_, _, _, _, _, hu5⟩ := lt6 hcl hpL
              have hP := hO.ph L[0] (List.getElem_mem hpL)
              have hZ := hO.sz L[0] (List.getElem_mem hpL)
              have hpI : (0 : Int) < (L.length : Int) := by omega
              generalize L[0] = u at hu5 hP hZ
              obtain ⟨z1, z2, z3⟩ := hZ
              rcases OwnF.split hP with h | ⟨_, gp, csp, hAp, hgp, _⟩
              · rw [h] at z2; simp at z2
              rw [hAp] at hu5 hP
              have HP := hid hP
              simp only [Nat.zero_add, Nat.zero_mul] at hu5
              have hbl := hB.lt
              (have hc0 := hB.cell 0; have hc1 := hB.cell 1; have hc2 := hB.cell 2; have hc3 := hB.cell 3; have hc4 := hB.cell 4; have hc5 := hB.cell 5; simp [go_sem] at hc0 hc1 hc2 hc3 hc4 hc5)
              (have fc0 := hB.frozen 0; have fc1 := hB.frozen 1; have fc2 := hB.frozen 2; have fc3 := hB.frozen 3; have fc4 := hB.frozen 4; have fc5 := hB.frozen 5)
              have HB := hid hB
              clear HLB hO hB hV hC hG hP hcl hAp
              go_wp2_with (at_builtin; go_loud (refine wpList_appL (B := wc.heap.size) rfl _ _ _ rfl 68 2 16 _ Try.underlying53 phase_inf rfl (by omega) (by omega) (fun _ => rfl) PhaseR.one1 _ 0 ([] : List PhaseR) 0 rfl rfl (Own.newIn (o := .cells #[] 68) (by (repeat (first | with_reducible exact grew_refl _ | with_reducible assumption | with_reducible refine grew_split ?_ | with_reducible refine grew_mk ?_ | with_reducible refine grew_plus ?_ | with_reducible refine grew_alloc ?_ | with_reducible refine grew_drew ?_ | (with_reducible refine grew_set ?_ (by first | exact Nat.le_refl _ | omega | (simp [go_sem]; done) | (simp [go_sem]; omega)))))) rfl (by first | rfl | first | (simp [go_sem]; done) | (simp [go_sem]; omega) | (simp [go_sem, Ext.add]; done) | (simp [go_sem, Ext.add]; omega) | omega) (by first | (simp [go_sem]; done) | (simp [go_sem]; omega) | (simp [go_sem, Ext.add]; done) | (simp [go_sem, Ext.add]; omega) | omega)) (by first | (simp [go_sem]; done) | (simp [go_sem]; omega) | (simp [go_sem, Ext.add]; done) | (simp [go_sem, Ext.add]; omega) | omega) u.core.ph (by simp; omega) gp 0 u.core.ph.length u.c rfl rfl (own_newsF (HP.out.grew (by (repeat (first | with_reducible exact grew_refl _ | with_reducible assumption | with_reducible refine grew_split ?_ | with_reducible refine grew_mk ?_ | with_reducible refine grew_plus ?_ | with_reducible refine grew_alloc ?_ | with_reducible refine grew_drew ?_ | (with_reducible refine grew_set ?_ (by first | exact Nat.le_refl _ | omega | (simp [go_sem]; done) | (simp [go_sem]; omega)))))))) ?_); intro A8 c8 w8 hO8 hg8 hat8; have hW8 := grew_own (w0 := wc) (by (repeat (first | with_reducible exact grew_refl _ | with_reducible assumption | with_reducible refine grew_split ?_ | with_reducible refine grew_mk ?_ | with_reducible refine grew_plus ?_ | with_reducible refine grew_alloc ?_ | with_reducible refine grew_drew ?_ | (with_reducible refine grew_set ?_ (by first | exact Nat.le_refl _ | omega | (simp [go_sem]; done) | (simp [go_sem]; omega)))))) hg8 (by intro a ha; injection ha with ha; subst ha; first | (simp [go_sem]; done) | (simp [go_sem]; omega) | (simp [go_sem, Ext.add]; done) | (simp [go_sem, Ext.add]; omega) | omega); have hB8 := blk_grew HB.out hW8; have hbl8 := hB8.lt; (have hd0 := hB8.cell 0; have hd1 := hB8.cell 1; have hd2 := hB8.cell 2; have hd3 := hB8.cell 3; have hd4 := hB8.cell 4; have hd5 := hB8.cell 5; simp [go_sem] at hd0 hd1 hd2 hd3 hd4 hd5); (have fd0 := hB8.frozen 0; have fd1 := hB8.frozen 1; have fd2 := hB8.frozen 2; have fd3 := hB8.frozen 3; have fd4 := hB8.frozen 4; have fd5 := hB8.frozen 5); have HB8 := hid hB8; have HO8 := hid (Own.f hO8 (fun _ => rfl)); have HW8 := hid hW8; clear hO8 hg8 hat8 hW8 hB8)
              go_meet
              have hw8 := HW8.out
              have hz8 := (below_of_grew hw8).size
              have hzw := HG.out.size
              exact ⟨(HO.out.grew hw8).box HB8.out hgx (grown_set (grown_refl _ _)), ⟨⟨{ v.core with ph := [] ++ u.core.ph }, A8, c8⟩, by simpa using HB8.out.set_ 5 _, ownF_apart (HO8.out.less hzw) HB8.out (by decide) (grown_set (grown_refl _ _)), hv1, z2, z3⟩, by simp; omega, (HC.out.grew' hw8).kept (grown_set (g := bx) (grown_refl _ _)) (fun k hk => by injection hk with hk; omega), grown_join (HG.out.trans (grown_of_grew hw8 _)) (grown_set (g := bx) (grown_refl _ _)) (fun k hk => by injection hk with hk; omega)⟩
          case rest =>
            clear HLB
            obtain ⟨hO, ⟨v, hB, hV, hv1, hv2, hv3⟩, hgb, hC, hG⟩ := hcut
            have HO := hid hO
            have HV := hid hV
            have HC := hid hC
            have HG := hid hG
            have hbl := hB.lt
            have hzw := hG.size
            (have hc0 := hB.cell 0; have hc1 := hB.cell 1; have hc2 := hB.cell 2; have hc3 := hB.cell 3; have hc4 := hB.cell 4; have hc5 := hB.cell 5; simp [go_sem] at hc0 hc1 hc2 hc3 hc4 hc5)
            have HB := hid hB
            clear hO hB hV hC hG
            go_upto_region 10 with fail
            go_cut [7] (fun o wx => ∃ (g2 d2 : Nat) (u : LightV), o = .slice (some ⟨g2, 0, none⟩) (L ++ [u]).length d2 ∧ (L ++ [u]).length ≤ d2 ∧ g2 < wx.heap.size ∧ LtsO w.heap.size wx (some ⟨g2, 0, none⟩) (L ++ [u]) ∧ LtsO w.heap.size wx (some ⟨gb, 0, none⟩) L ∧ gb < wx.heap.size ∧ CurU w0 wx g A c bs (M + 2 + 220 * (k : Int) + 212) ∧ w.grownBy wx (some g))
            case first =>
              go_region_law ((first
                | (refine step_appL (B := wc.heap.size) (by rfl) _ _ _ (by rfl) 55 6 72 _ Try.underlying27 light_inf rfl (by omega) (by omega) (fun _ => rfl) LightV.one _ 0 ([] : List LightV) 0 rfl (by rfl) (own_zero (by first | (first | (first | (first | with_reducible exact HS5.out | with_reducible exact blk_new (by first | (simp [go_sem]; done) | (simp [go_sem]; omega) | (simp [go_sem, Ext.add]; done) | (simp [go_sem, Ext.add]; omega) | omega)) | (with_reducible refine blk_drew ?_; first | with_reducible exact HS5.out | with_reducible exact blk_new (by first | (simp [go_sem]; done) | (simp [go_sem]; omega) | (simp [go_sem, Ext.add]; done) | (simp [go_sem, Ext.add]; omega) | omega)) | (with_reducible refine Blk.alloc ?_ _; first | with_reducible exact HS5.out | with_reducible exact blk_new (by first | (simp [go_sem]; done) | (simp [go_sem]; omega) | (simp [go_sem, Ext.add]; done) | (simp [go_sem, Ext.add]; omega) | omega))) | (with_reducible refine blk_drew ?_; first | (first | with_reducible exact HS5.out | with_reducible exact blk_new (by first | (simp [go_sem]; done) | (simp [go_sem]; omega) | (simp [go_sem, Ext.add]; done) | (simp [go_sem, Ext.add]; omega) | omega)) | (with_reducible refine blk_drew ?_; first | with_reducible exact HS5.out | with_reducible exact blk_new (by first | (simp [go_sem]; done) | (simp [go_sem]; omega) | (simp [go_sem, Ext.add]; done) | (simp [go_sem, Ext.add]; omega) | omega)) | (with_reducible refine Blk.alloc ?_ _; first | with_reducible exact HS5.out | with_reducible exact blk_new (by first | (simp [go_sem]; done) | (simp [go_sem]; omega) | (simp [go_sem, Ext.add]; done) | (simp [go_sem, Ext.add]; omega) | omega))) | (with_reducible refine Blk.alloc ?_ _; first | (first | with_reducible exact HS5.out | with_reducible exact blk_new (by first | (simp [go_sem]; done) | (simp [go_sem]; omega) | (simp [go_sem, Ext.add]; done) | (simp [go_sem, Ext.add]; omega) | omega)) | (with_reducible refine blk_drew ?_; first | with_reducible exact HS5.out | with_reducible exact blk_new (by first | (simp [go_sem]; done) | (simp [go_sem]; omega) | (simp [go_sem, Ext.add]; done) | (simp [go_sem, Ext.add]; omega) | omega)) | (with_reducible refine Blk.alloc ?_ _; first | with_reducible exact HS5.out | with_reducible exact blk_new (by first | (simp [go_sem]; done) | (simp [go_sem]; omega) | (simp [go_sem, Ext.add]; done) | (simp [go_sem, Ext.add]; omega) | omega)))) | (with_reducible refine blk_drew ?_; first | (first | (first | with_reducible exact HS5.out | with_reducible exact blk_new (by first | (simp [go_sem]; done) | (simp [go_sem]; omega) | (simp [go_sem, Ext.add]; done) | (simp [go_sem, Ext.add]; omega) | omega)) | (with_reducible refine blk_drew ?_; first | with_reducible exact HS5.out | with_reducible exact blk_new (by first | (simp [go_sem]; done) | (simp [go_sem]; omega) | (simp [go_sem, Ext.add]; done) | (simp [go_sem, Ext.add]; omega) | omega)) | (with_reducible refine Blk.alloc ?_ _; first | with_reducible exact HS5.out | with_reducible exact blk_new (by first | (simp [go_sem]; done) | (simp [go_sem]; omega) | (simp [go_sem, Ext.add]; done) | (simp [go_sem, Ext.add]; omega) | omega))) | (with_reducible refine blk_drew ?_; first | (first | with_reducible exact HS5.out | with_reducible exact blk_new (by first | (simp [go_sem]; done) | (simp [go_sem]; omega) | (simp [go_sem, Ext.add]; done) | (simp [go_sem, Ext.add]; omega) | omega)) | (with_reducible refine blk_drew ?_; first | with_reducible exact HS5.out | with_reducible exact blk_new (by first | (simp [go_sem]; done) | (simp [go_sem]; omega) | (simp [go_sem, Ext.add]; done) | (simp [go_sem, Ext.add]; omega) | omega)) | (with_reducible refine Blk.alloc ?_ _; first | with_reducible exact HS5.out | with_reducible exact blk_new (by first | (simp [go_sem]; done) | (simp [go_sem]; omega) | (simp [go_sem, Ext.add]; done) | (simp [go_sem, Ext.add]; omega) | omega))) | (with_reducible refine Blk.alloc ?_ _; first | (first | with_reducible exact HS5.out | with_reducible exact blk_new (by first | (simp [go_sem]; done) | (simp [go_sem]; omega) | (simp [go_sem, Ext.add]; done) | (simp [go_sem, Ext.add]; omega) | omega)) | (with_reducible refine blk_drew ?_; first | with_reducible exact HS5.out | with_reducible exact blk_new (by first | (simp [go_sem]; done) | (simp [go_sem]; omega) | (simp [go_sem, Ext.add]; done) | (simp [go_sem, Ext.add]; omega) | omega)) | (with_reducible refine Blk.alloc ?_ _; first | with_reducible exact HS5.out | with_reducible exact blk_new (by first | (simp [go_sem]; done) | (simp [go_sem]; omega) | (simp [go_sem, Ext.add]; done) | (simp [go_sem, Ext.add]; omega) | omega)))) | (with_reducible refine Blk.alloc ?_ _; first | (first | (first | with_reducible exact HS5.out | with_reducible exact blk_new (by first | (simp [go_sem]; done) | (simp [go_sem]; omega) | (simp [go_sem, Ext.add]; done) | (simp [go_sem, Ext.add]; omega) | omega)) | (with_reducible refine blk_drew ?_; first | with_reducible exact HS5.out | with_reducible exact blk_new (by first | (simp [go_sem]; done) | (simp [go_sem]; omega) | (simp [go_sem, Ext.add]; done) | (simp [go_sem, Ext.add]; omega) | omega)) | (with_reducible refine Blk.alloc ?_ _; first | with_reducible exact HS5.out | with_reducible exact blk_new (by first | (simp [go_sem]; done) | (simp [go_sem]; omega) | (simp [go_sem, Ext.add]; done) | (simp [go_sem, Ext.add]; omega) | omega))) | (with_reducible refine blk_drew ?_; first | (first | with_reducible exact HS5.out | with_reducible exact blk_new (by first | (simp [go_sem]; done) | (simp [go_sem]; omega) | (simp [go_sem, Ext.add]; done) | (simp [go_sem, Ext.add]; omega) | omega)) | (with_reducible refine blk_drew ?_; first | with_reducible exact HS5.out | with_reducible exact blk_new (by first | (simp [go_sem]; done) | (simp [go_sem]; omega) | (simp [go_sem, Ext.add]; done) | (simp [go_sem, Ext.add]; omega) | omega)) | (with_reducible refine Blk.alloc ?_ _; first | with_reducible exact HS5.out | with_reducible exact blk_new (by first | (simp [go_sem]; done) | (simp [go_sem]; omega) | (simp [go_sem, Ext.add]; done) | (simp [go_sem, Ext.add]; omega) | omega))) | (with_reducible refine Blk.alloc ?_ _; first | (first | with_reducible exact HS5.out | with_reducible exact blk_new (by first | (simp [go_sem]; done) | (simp [go_sem]; omega) | (simp [go_sem, Ext.add]; done) | (simp [go_sem, Ext.add]; omega) | omega)) | (with_reducible refine blk_drew ?_; first | with_reducible exact HS5.out | with_reducible exact blk_new (by first | (simp [go_sem]; done) | (simp [go_sem]; omega) | (simp [go_sem, Ext.add]; done) | (simp [go_sem, Ext.add]; omega) | omega)) | (with_reducible refine Blk.alloc ?_ _; first | with_reducible exact HS5.out | with_reducible exact blk_new (by first | (simp [go_sem]; done) | (simp [go_sem]; omega) | (simp [go_sem, Ext.add]; done) | (simp [go_sem, Ext.add]; omega) | omega)))) | fail) (by first | (simp [go_sem]; done) | (simp [go_sem]; omega) | (simp [go_sem, Ext.add]; done) | (simp [go_sem, Ext.add]; omega) | omega)) (by first | (simp [go_sem]; done) | (simp [go_sem]; omega) | (simp [go_sem, Ext.add]; done) | (simp [go_sem, Ext.add]; omega) | omega) L (by simp; omega) gb 0 L.length d rfl (by rfl) (own_newsF (HO.out.ls.grew (by (repeat (first | with_reducible exact grew_refl _ | with_reducible assumption | with_reducible refine grew_split ?_ | with_reducible refine grew_mk ?_ | with_reducible refine grew_plus ?_ | with_reducible refine grew_alloc ?_ | with_reducible refine grew_drew ?_ | (with_reducible refine grew_set ?_ (by first | exact Nat.le_refl _ | omega | (simp [go_sem]; done) | (simp [go_sem]; omega)))))))) ?_; intro A7 c7 w7 hO7 hg7 hat7; (first | (have HS5 := hid (blk_kept (g := wc.heap.size + 1) (t := 55) (cs := #[.int .i64 (v).core.id, .string (v).core.nm, .int .i64 (v).core.x, .int .i64 (v).core.y, .int .i64 (v).core.range, .slice (v).A (v).core.ph.length (v).c]) (show Blk _ _ _ _ by (first | (first | (first | (first | with_reducible exact HS5.out | with_reducible exact blk_new (by first | (simp [go_sem]; done) | (simp [go_sem]; omega) | (simp [go_sem, Ext.add]; done) | (simp [go_sem, Ext.add]; omega) | omega)) | (with_reducible refine blk_drew ?_; first | with_reducible exact HS5.out | with_reducible exact blk_new (by first | (simp [go_sem]; done) | (simp [go_sem]; omega) | (simp [go_sem, Ext.add]; done) | (simp [go_sem, Ext.add]; omega) | omega)) | (with_reducible refine Blk.alloc ?_ _; first | with_reducible exact HS5.out | with_reducible exact blk_new (by first | (simp [go_sem]; done) | (simp [go_sem]; omega) | (simp [go_sem, Ext.add]; done) | (simp [go_sem, Ext.add]; omega) | omega))) | (with_reducible refine blk_drew ?_; first | (first | with_reducible exact HS5.out | with_reducible exact blk_new (by first | (simp [go_sem]; done) | (simp [go_sem]; omega) | (simp [go_sem, Ext.add]; done) | (simp [go_sem, Ext.add]; omega) | omega)) | (with_reducible refine blk_drew ?_; first | with_reducible exact HS5.out | with_reducible exact blk_new (by first | (simp [go_sem]; done) | (simp [go_sem]; omega) | (simp [go_sem, Ext.add]; done) | (simp [go_sem, Ext.add]; omega) | omega)) | (with_reducible refine Blk.alloc ?_ _; first | with_reducible exact HS5.out | with_reducible exact blk_new (by first | (simp [go_sem]; done) | (simp [go_sem]; omega) | (simp [go_sem, Ext.add]; done) | (simp [go_sem, Ext.add]; omega) | omega))) | (with_reducible refine Blk.alloc ?_ _; first | (first | with_reducible exact HS5.out | with_reducible exact blk_new (by first | (simp [go_sem]; done) | (simp [go_sem]; omega) | (simp [go_sem, Ext.add]; done) | (simp [go_sem, Ext.add]; omega) | omega)) | (with_reducible refine blk_drew ?_; first | with_reducible exact HS5.out | with_reducible exact blk_new (by first | (simp [go_sem]; done) | (simp [go_sem]; omega) | (simp [go_sem, Ext.add]; done) | (simp [go_sem, Ext.add]; omega) | omega)) | (with_reducible refine Blk.alloc ?_ _; first | with_reducible exact HS5.out | with_reducible exact blk_new (by first | (simp [go_sem]; done) | (simp [go_sem]; omega) | (simp [go_sem, Ext.add]; done) | (simp [go_sem, Ext.add]; omega) | omega)))) | (with_reducible refine blk_drew ?_; first | (first | (first | with_reducible exact HS5.out | with_reducible exact blk_new (by first | (simp [go_sem]; done) | (simp [go_sem]; omega) | (simp [go_sem, Ext.add]; done) | (simp [go_sem, Ext.add]; omega) | omega)) | (with_reducible refine blk_drew ?_; first | with_reducible exact HS5.out | with_reducible exact blk_new (by first | (simp [go_sem]; done) | (simp [go_sem]; omega) | (simp [go_sem, Ext.add]; done) | (simp [go_sem, Ext.add]; omega) | omega)) | (with_reducible refine Blk.alloc ?_ _; first | with_reducible exact HS5.out | with_reducible exact blk_new (by first | (simp [go_sem]; done) | (simp [go_sem]; omega) | (simp [go_sem, Ext.add]; done) | (simp [go_sem, Ext.add]; omega) | omega))) | (with_reducible refine blk_drew ?_; first | (first | with_reducible exact HS5.out | with_reducible exact blk_new (by first | (simp [go_sem]; done) | (simp [go_sem]; omega) | (simp [go_sem, Ext.add]; done) | (simp [go_sem, Ext.add]; omega) | omega)) | (with_reducible refine blk_drew ?_; first | with_reducible exact HS5.out | with_reducible exact blk_new (by first | (simp [go_sem]; done) | (simp [go_sem]; omega) | (simp [go_sem, Ext.add]; done) | (simp [go_sem, Ext.add]; omega) | omega)) | (with_reducible refine Blk.alloc ?_ _; first | with_reducible exact HS5.out | with_reducible exact blk_new (by first | (simp [go_sem]; done) | (simp [go_sem]; omega) | (simp [go_sem, Ext.add]; done) | (simp [go_sem, Ext.add]; omega) | omega))) | (with_reducible refine Blk.alloc ?_ _; first | (first | with_reducible exact HS5.out | with_reducible exact blk_new (by first | (simp [go_sem]; done) | (simp [go_sem]; omega) | (simp [go_sem, Ext.add]; done) | (simp [go_sem, Ext.add]; omega) | omega)) | (with_reducible refine blk_drew ?_; first | with_reducible exact HS5.out | with_reducible exact blk_new (by first | (simp [go_sem]; done) | (simp [go_sem]; omega) | (simp [go_sem, Ext.add]; done) | (simp [go_sem, Ext.add]; omega) | omega)) | (with_reducible refine Blk.alloc ?_ _; first | with_reducible exact HS5.out | with_reducible exact blk_new (by first | (simp [go_sem]; done) | (simp [go_sem]; omega) | (simp [go_sem, Ext.add]; done) | (simp [go_sem, Ext.add]; omega) | omega)))) | (with_reducible refine Blk.alloc ?_ _; first | (first | (first | with_reducible exact HS5.out | with_reducible exact blk_new (by first | (simp [go_sem]; done) | (simp [go_sem]; omega) | (simp [go_sem, Ext.add]; done) | (simp [go_sem, Ext.add]; omega) | omega)) | (with_reducible refine blk_drew ?_; first | with_reducible exact HS5.out | with_reducible exact blk_new (by first | (simp [go_sem]; done) | (simp [go_sem]; omega) | (simp [go_sem, Ext.add]; done) | (simp [go_sem, Ext.add]; omega) | omega)) | (with_reducible refine Blk.alloc ?_ _; first | with_reducible exact HS5.out | with_reducible exact blk_new (by first | (simp [go_sem]; done) | (simp [go_sem]; omega) | (simp [go_sem, Ext.add]; done) | (simp [go_sem, Ext.add]; omega) | omega))) | (with_reducible refine blk_drew ?_; first | (first | with_reducible exact HS5.out | with_reducible exact blk_new (by first | (simp [go_sem]; done) | (simp [go_sem]; omega) | (simp [go_sem, Ext.add]; done) | (simp [go_sem, Ext.add]; omega) | omega)) | (with_reducible refine blk_drew ?_; first | with_reducible exact HS5.out | with_reducible exact blk_new (by first | (simp [go_sem]; done) | (simp [go_sem]; omega) | (simp [go_sem, Ext.add]; done) | (simp [go_sem, Ext.add]; omega) | omega)) | (with_reducible refine Blk.alloc ?_ _; first | with_reducible exact HS5.out | with_reducible exact blk_new (by first | (simp [go_sem]; done) | (simp [go_sem]; omega) | (simp [go_sem, Ext.add]; done) | (simp [go_sem, Ext.add]; omega) | omega))) | (with_reducible refine Blk.alloc ?_ _; first | (first | with_reducible exact HS5.out | with_reducible exact blk_new (by first | (simp [go_sem]; done) | (simp [go_sem]; omega) | (simp [go_sem, Ext.add]; done) | (simp [go_sem, Ext.add]; omega) | omega)) | (with_reducible refine blk_drew ?_; first | with_reducible exact HS5.out | with_reducible exact blk_new (by first | (simp [go_sem]; done) | (simp [go_sem]; omega) | (simp [go_sem, Ext.add]; done) | (simp [go_sem, Ext.add]; omega) | omega)) | (with_reducible refine Blk.alloc ?_ _; first | with_reducible exact HS5.out | with_reducible exact blk_new (by first | (simp [go_sem]; done) | (simp [go_sem]; omega) | (simp [go_sem, Ext.add]; done) | (simp [go_sem, Ext.add]; omega) | omega)))) | fail)) hg7 (by intro a ha; injection ha with ha; subst ha; first | (simp [go_sem]; done) | (simp [go_sem]; omega) | (simp [go_sem, Ext.add]; done) | (simp [go_sem, Ext.add]; omega) | omega))) | (have HS5 := hid (blk_kept (g := wc.heap.size) (t := 55) (cs := #[.int .i64 (v).core.id, .string (v).core.nm, .int .i64 (v).core.x, .int .i64 (v).core.y, .int .i64 (v).core.range, .slice (v).A (v).core.ph.length (v).c]) (show Blk _ _ _ _ by (first | (first | (first | (first | with_reducible exact HS5.out | with_reducible exact blk_new (by first | (simp [go_sem]; done) | (simp [go_sem]; omega) | (simp [go_sem, Ext.add]; done) | (simp [go_sem, Ext.add]; omega) | omega)) | (with_reducible refine blk_drew ?_; first | with_reducible exact HS5.out | with_reducible exact blk_new (by first | (simp [go_sem]; done) | (simp [go_sem]; omega) | (simp [go_sem, Ext.add]; done) | (simp [go_sem, Ext.add]; omega) | omega)) | (with_reducible refine Blk.alloc ?_ _; first | with_reducible exact HS5.out | with_reducible exact blk_new (by first | (simp [go_sem]; done) | (simp [go_sem]; omega) | (simp [go_sem, Ext.add]; done) | (simp [go_sem, Ext.add]; omega) | omega))) | (with_reducible refine blk_drew ?_; first | (first | with_reducible exact HS5.out | with_reducible exact blk_new (by first | (simp [go_sem]; done) | (simp [go_sem]; omega) | (simp [go_sem, Ext.add]; done) | (simp [go_sem, Ext.add]; omega) | omega)) | (with_reducible refine blk_drew ?_; first | with_reducible exact HS5.out | with_reducible exact blk_new (by first | (simp [go_sem]; done) | (simp [go_sem]; omega) | (simp [go_sem, Ext.add]; done) | (simp [go_sem, Ext.add]; omega) | omega)) | (with_reducible refine Blk.alloc ?_ _; first | with_reducible exact HS5.out | with_reducible exact blk_new (by first | (simp [go_sem]; done) | (simp [go_sem]; omega) | (simp [go_sem, Ext.add]; done) | (simp [go_sem, Ext.add]; omega) | omega))) | (with_reducible refine Blk.alloc ?_ _; first | (first | with_reducible exact HS5.out | with_reducible exact blk_new (by first | (simp [go_sem]; done) | (simp [go_sem]; omega) | (simp [go_sem, Ext.add]; done) | (simp [go_sem, Ext.add]; omega) | omega)) | (with_reducible refine blk_drew ?_; first | with_reducible exact HS5.out | with_reducible exact blk_new (by first | (simp [go_sem]; done) | (simp [go_sem]; omega) | (simp [go_sem, Ext.add]; done) | (simp [go_sem, Ext.add]; omega) | omega)) | (with_reducible refine Blk.alloc ?_ _; first | with_reducible exact HS5.out | with_reducible exact blk_new (by first | (simp [go_sem]; done) | (simp [go_sem]; omega) | (simp [go_sem, Ext.add]; done) | (simp [go_sem, Ext.add]; omega) | omega)))) | (with_reducible refine blk_drew ?_; first | (first | (first | with_reducible exact HS5.out | with_reducible exact blk_new (by first | (simp [go_sem]; done) | (simp [go_sem]; omega) | (simp [go_sem, Ext.add]; done) | (simp [go_sem, Ext.add]; omega) | omega)) | (with_reducible refine blk_drew ?_; first | with_reducible exact HS5.out | with_reducible exact blk_new (by first | (simp [go_sem]; done) | (simp [go_sem]; omega) | (simp [go_sem, Ext.add]; done) | (simp [go_sem, Ext.add]; omega) | omega)) | (with_reducible refine Blk.alloc ?_ _; first | with_reducible exact HS5.out | with_reducible exact blk_new (by first | (simp [go_sem]; done) | (simp [go_sem]; omega) | (simp [go_sem, Ext.add]; done) | (simp [go_sem, Ext.add]; omega) | omega))) | (with_reducible refine blk_drew ?_; first | (first | with_reducible exact HS5.out | with_reducible exact blk_new (by first | (simp [go_sem]; done) | (simp [go_sem]; omega) | (simp [go_sem, Ext.add]; done) | (simp [go_sem, Ext.add]; omega) | omega)) | (with_reducible refine blk_drew ?_; first | with_reducible exact HS5.out | with_reducible exact blk_new (by first | (simp [go_sem]; done) | (simp [go_sem]; omega) | (simp [go_sem, Ext.add]; done) | (simp [go_sem, Ext.add]; omega) | omega)) | (with_reducible refine Blk.alloc ?_ _; first | with_reducible exact HS5.out | with_reducible exact blk_new (by first | (simp [go_sem]; done) | (simp [go_sem]; omega) | (simp [go_sem, Ext.add]; done) | (simp [go_sem, Ext.add]; omega) | omega))) | (with_reducible refine Blk.alloc ?_ _; first | (first | with_reducible exact HS5.out | with_reducible exact blk_new (by first | (simp [go_sem]; done) | (simp [go_sem]; omega) | (simp [go_sem, Ext.add]; done) | (simp [go_sem, Ext.add]; omega) | omega)) | (with_reducible refine blk_drew ?_; first | with_reducible exact HS5.out | with_reducible exact blk_new (by first | (simp [go_sem]; done) | (simp [go_sem]; omega) | (simp [go_sem, Ext.add]; done) | (simp [go_sem, Ext.add]; omega) | omega)) | (with_reducible refine Blk.alloc ?_ _; first | with_reducible exact HS5.out | with_reducible exact blk_new (by first | (simp [go_sem]; done) | (simp [go_sem]; omega) | (simp [go_sem, Ext.add]; done) | (simp [go_sem, Ext.add]; omega) | omega)))) | (with_reducible refine Blk.alloc ?_ _; first | (first | (first | with_reducible exact HS5.out | with_reducible exact blk_new (by first | (simp [go_sem]; done) | (simp [go_sem]; omega) | (simp [go_sem, Ext.add]; done) | (simp [go_sem, Ext.add]; omega) | omega)) | (with_reducible refine blk_drew ?_; first | with_reducible exact HS5.out | with_reducible exact blk_new (by first | (simp [go_sem]; done) | (simp [go_sem]; omega) | (simp [go_sem, Ext.add]; done) | (simp [go_sem, Ext.add]; omega) | omega)) | (with_reducible refine Blk.alloc ?_ _; first | with_reducible exact HS5.out | with_reducible exact blk_new (by first | (simp [go_sem]; done) | (simp [go_sem]; omega) | (simp [go_sem, Ext.add]; done) | (simp [go_sem, Ext.add]; omega) | omega))) | (with_reducible refine blk_drew ?_; first | (first | with_reducible exact HS5.out | with_reducible exact blk_new (by first | (simp [go_sem]; done) | (simp [go_sem]; omega) | (simp [go_sem, Ext.add]; done) | (simp [go_sem, Ext.add]; omega) | omega)) | (with_reducible refine blk_drew ?_; first | with_reducible exact HS5.out | with_reducible exact blk_new (by first | (simp [go_sem]; done) | (simp [go_sem]; omega) | (simp [go_sem, Ext.add]; done) | (simp [go_sem, Ext.add]; omega) | omega)) | (with_reducible refine Blk.alloc ?_ _; first | with_reducible exact HS5.out | with_reducible exact blk_new (by first | (simp [go_sem]; done) | (simp [go_sem]; omega) | (simp [go_sem, Ext.add]; done) | (simp [go_sem, Ext.add]; omega) | omega))) | (with_reducible refine Blk.alloc ?_ _; first | (first | with_reducible exact HS5.out | with_reducible exact blk_new (by first | (simp [go_sem]; done) | (simp [go_sem]; omega) | (simp [go_sem, Ext.add]; done) | (simp [go_sem, Ext.add]; omega) | omega)) | (with_reducible refine blk_drew ?_; first | with_reducible exact HS5.out | with_reducible exact blk_new (by first | (simp [go_sem]; done) | (simp [go_sem]; omega) | (simp [go_sem, Ext.add]; done) | (simp [go_sem, Ext.add]; omega) | omega)) | (with_reducible refine Blk.alloc ?_ _; first | with_reducible exact HS5.out | with_reducible exact blk_new (by first | (simp [go_sem]; done) | (simp [go_sem]; omega) | (simp [go_sem, Ext.add]; done) | (simp [go_sem, Ext.add]; omega) | omega)))) | fail)) hg7 (by intro a ha; injection ha with ha; subst ha; first | (simp [go_sem]; done) | (simp [go_sem]; omega) | (simp [go_sem, Ext.add]; done) | (simp [go_sem, Ext.add]; omega) | omega))) | skip); have hW7 := grew_own (w0 := wc) (by (repeat (first | with_reducible exact grew_refl _ | with_reducible assumption | with_reducible refine grew_split ?_ | with_reducible refine grew_mk ?_ | with_reducible refine grew_plus ?_ | with_reducible refine grew_alloc ?_ | with_reducible refine grew_drew ?_ | (with_reducible refine grew_set ?_ (by first | exact Nat.le_refl _ | omega | (simp [go_sem]; done) | (simp [go_sem]; omega)))))) hg7 (by intro a ha; injection ha with ha; subst ha; first | (simp [go_sem]; done) | (simp [go_sem]; omega) | (simp [go_sem, Ext.add]; done) | (simp [go_sem, Ext.add]; omega) | omega); have hb7 := blk_grew HB.out hW7; have hbl7 := hb7.lt; (have hd0 := hb7.cell 0; have hd1 := hb7.cell 1; have hd2 := hb7.cell 2; have hd3 := hb7.cell 3; have hd4 := hb7.cell 4; have hd5 := hb7.cell 5; simp [go_sem] at hd0 hd1 hd2 hd3 hd4 hd5); have HW7 := hid hW7; have hz7 := (below_of_grew hW7).size; have HO7 := hid hO7; clear hO7 hg7 hat7 hW7 hb7)
                | (refine step_appB (B := wc.heap.size) (by rfl) _ _ _ (by rfl) 55 6 72 _ Try.underlying27 light_inf rfl (by omega) (by omega) A7 c7 ([] ++ L) L.length (by simp) (by rfl) (HO7.out.grew (by (repeat (first | with_reducible exact grew_refl _ | with_reducible assumption | with_reducible refine grew_split ?_ | with_reducible refine grew_mk ?_ | with_reducible refine grew_plus ?_ | with_reducible refine grew_alloc ?_ | with_reducible refine grew_drew ?_ | (with_reducible refine grew_set ?_ (by first | exact Nat.le_refl _ | omega | (simp [go_sem]; done) | (simp [go_sem]; omega))))))) (by first | (simp [go_sem]; done) | (simp [go_sem]; omega) | (simp [go_sem, Ext.add]; done) | (simp [go_sem, Ext.add]; omega) | omega) (by simp; omega) _ v _ (by rfl) rfl (light_news (by first | (first | (first | (first | with_reducible exact HS5.out | with_reducible exact blk_new (by first | (simp [go_sem]; done) | (simp [go_sem]; omega) | (simp [go_sem, Ext.add]; done) | (simp [go_sem, Ext.add]; omega) | omega)) | (with_reducible refine blk_drew ?_; first | with_reducible exact HS5.out | with_reducible exact blk_new (by first | (simp [go_sem]; done) | (simp [go_sem]; omega) | (simp [go_sem, Ext.add]; done) | (simp [go_sem, Ext.add]; omega) | omega)) | (with_reducible refine Blk.alloc ?_ _; first | with_reducible exact HS5.out | with_reducible exact blk_new (by first | (simp [go_sem]; done) | (simp [go_sem]; omega) | (simp [go_sem, Ext.add]; done) | (simp [go_sem, Ext.add]; omega) | omega))) | (with_reducible refine blk_drew ?_; first | (first | with_reducible exact HS5.out | with_reducible exact blk_new (by first | (simp [go_sem]; done) | (simp [go_sem]; omega) | (simp [go_sem, Ext.add]; done) | (simp [go_sem, Ext.add]; omega) | omega)) | (with_reducible refine blk_drew ?_; first | with_reducible exact HS5.out | with_reducible exact blk_new (by first | (simp [go_sem]; done) | (simp [go_sem]; omega) | (simp [go_sem, Ext.add]; done) | (simp [go_sem, Ext.add]; omega) | omega)) | (with_reducible refine Blk.alloc ?_ _; first | with_reducible exact HS5.out | with_reducible exact blk_new (by first | (simp [go_sem]; done) | (simp [go_sem]; omega) | (simp [go_sem, Ext.add]; done) | (simp [go_sem, Ext.add]; omega) | omega))) | (with_reducible refine Blk.alloc ?_ _; first | (first | with_reducible exact HS5.out | with_reducible exact blk_new (by first | (simp [go_sem]; done) | (simp [go_sem]; omega) | (simp [go_sem, Ext.add]; done) | (simp [go_sem, Ext.add]; omega) | omega)) | (with_reducible refine blk_drew ?_; first | with_reducible exact HS5.out | with_reducible exact blk_new (by first | (simp [go_sem]; done) | (simp [go_sem]; omega) | (simp [go_sem, Ext.add]; done) | (simp [go_sem, Ext.add]; omega) | omega)) | (with_reducible refine Blk.alloc ?_ _; first | with_reducible exact HS5.out | with_reducible exact blk_new (by first | (simp [go_sem]; done) | (simp [go_sem]; omega) | (simp [go_sem, Ext.add]; done) | (simp [go_sem, Ext.add]; omega) | omega)))) | (with_reducible refine blk_drew ?_; first | (first | (first | with_reducible exact HS5.out | with_reducible exact blk_new (by first | (simp [go_sem]; done) | (simp [go_sem]; omega) | (simp [go_sem, Ext.add]; done) | (simp [go_sem, Ext.add]; omega) | omega)) | (with_reducible refine blk_drew ?_; first | with_reducible exact HS5.out | with_reducible exact blk_new (by first | (simp [go_sem]; done) | (simp [go_sem]; omega) | (simp [go_sem, Ext.add]; done) | (simp [go_sem, Ext.add]; omega) | omega)) | (with_reducible refine Blk.alloc ?_ _; first | with_reducible exact HS5.out | with_reducible exact blk_new (by first | (simp [go_sem]; done) | (simp [go_sem]; omega) | (simp [go_sem, Ext.add]; done) | (simp [go_sem, Ext.add]; omega) | omega))) | (with_reducible refine blk_drew ?_; first | (first | with_reducible exact HS5.out | with_reducible exact blk_new (by first | (simp [go_sem]; done) | (simp [go_sem]; omega) | (simp [go_sem, Ext.add]; done) | (simp [go_sem, Ext.add]; omega) | omega)) | (with_reducible refine blk_drew ?_; first | with_reducible exact HS5.out | with_reducible exact blk_new (by first | (simp [go_sem]; done) | (simp [go_sem]; omega) | (simp [go_sem, Ext.add]; done) | (simp [go_sem, Ext.add]; omega) | omega)) | (with_reducible refine Blk.alloc ?_ _; first | with_reducible exact HS5.out | with_reducible exact blk_new (by first | (simp [go_sem]; done) | (simp [go_sem]; omega) | (simp [go_sem, Ext.add]; done) | (simp [go_sem, Ext.add]; omega) | omega))) | (with_reducible refine Blk.alloc ?_ _; first | (first | with_reducible exact HS5.out | with_reducible exact blk_new (by first | (simp [go_sem]; done) | (simp [go_sem]; omega) | (simp [go_sem, Ext.add]; done) | (simp [go_sem, Ext.add]; omega) | omega)) | (with_reducible refine blk_drew ?_; first | with_reducible exact HS5.out | with_reducible exact blk_new (by first | (simp [go_sem]; done) | (simp [go_sem]; omega) | (simp [go_sem, Ext.add]; done) | (simp [go_sem, Ext.add]; omega) | omega)) | (with_reducible refine Blk.alloc ?_ _; first | with_reducible exact HS5.out | with_reducible exact blk_new (by first | (simp [go_sem]; done) | (simp [go_sem]; omega) | (simp [go_sem, Ext.add]; done) | (simp [go_sem, Ext.add]; omega) | omega)))) | (with_reducible refine Blk.alloc ?_ _; first | (first | (first | with_reducible exact HS5.out | with_reducible exact blk_new (by first | (simp [go_sem]; done) | (simp [go_sem]; omega) | (simp [go_sem, Ext.add]; done) | (simp [go_sem, Ext.add]; omega) | omega)) | (with_reducible refine blk_drew ?_; first | with_reducible exact HS5.out | with_reducible exact blk_new (by first | (simp [go_sem]; done) | (simp [go_sem]; omega) | (simp [go_sem, Ext.add]; done) | (simp [go_sem, Ext.add]; omega) | omega)) | (with_reducible refine Blk.alloc ?_ _; first | with_reducible exact HS5.out | with_reducible exact blk_new (by first | (simp [go_sem]; done) | (simp [go_sem]; omega) | (simp [go_sem, Ext.add]; done) | (simp [go_sem, Ext.add]; omega) | omega))) | (with_reducible refine blk_drew ?_; first | (first | with_reducible exact HS5.out | with_reducible exact blk_new (by first | (simp [go_sem]; done) | (simp [go_sem]; omega) | (simp [go_sem, Ext.add]; done) | (simp [go_sem, Ext.add]; omega) | omega)) | (with_reducible refine blk_drew ?_; first | with_reducible exact HS5.out | with_reducible exact blk_new (by first | (simp [go_sem]; done) | (simp [go_sem]; omega) | (simp [go_sem, Ext.add]; done) | (simp [go_sem, Ext.add]; omega) | omega)) | (with_reducible refine Blk.alloc ?_ _; first | with_reducible exact HS5.out | with_reducible exact blk_new (by first | (simp [go_sem]; done) | (simp [go_sem]; omega) | (simp [go_sem, Ext.add]; done) | (simp [go_sem, Ext.add]; omega) | omega))) | (with_reducible refine Blk.alloc ?_ _; first | (first | with_reducible exact HS5.out | with_reducible exact blk_new (by first | (simp [go_sem]; done) | (simp [go_sem]; omega) | (simp [go_sem, Ext.add]; done) | (simp [go_sem, Ext.add]; omega) | omega)) | (with_reducible refine blk_drew ?_; first | with_reducible exact HS5.out | with_reducible exact blk_new (by first | (simp [go_sem]; done) | (simp [go_sem]; omega) | (simp [go_sem, Ext.add]; done) | (simp [go_sem, Ext.add]; omega) | omega)) | (with_reducible refine Blk.alloc ?_ _; first | with_reducible exact HS5.out | with_reducible exact blk_new (by first | (simp [go_sem]; done) | (simp [go_sem]; omega) | (simp [go_sem, Ext.add]; done) | (simp [go_sem, Ext.add]; omega) | omega)))) | fail)) (LightV.one v) ?_; intro A8 c8 w8 hO8 hg8 hat8; have HW8 := hid (grew_own (w0 := wc) (by have h := HW7.out; (repeat (first | with_reducible exact grew_refl _ | with_reducible assumption | with_reducible refine grew_split ?_ | with_reducible refine grew_mk ?_ | with_reducible refine grew_plus ?_ | with_reducible refine grew_alloc ?_ | with_reducible refine grew_drew ?_ | (with_reducible refine grew_set ?_ (by first | exact Nat.le_refl _ | omega | (simp [go_sem]; done) | (simp [go_sem]; omega)))))) hg8 (fun a ha => (HO7.out.ne a ha).1)); have HO8 := hid hO8; clear hO8 hg8 hat8)))
              all_goals
                have hO9 := HO8.out
                rw [List.nil_append] at hO9
                obtain ⟨g2, rfl, hb2, hcap, cs, hB2, hz2, hF2⟩ := own_split hO9 (fun _ => rfl) (by simp)
                have hw8 := HW8.out
                have hz8 := (below_of_grew hw8).size
                clear hO9 HO8
                go_wp2_with fail
                go_meet
                exact ⟨g2, c8, v, vsl (by simp), by simpa using hcap, hB2.lt, (HO.out.grew hw8).snoc (.inr ⟨g2, cs, rfl, by omega, hB2, hz2, hF2⟩) (HV.out.grew hw8) ⟨hv1, hv2, hv3⟩, HO.out.grew hw8, by omega, HC.out.grew' hw8, HG.out.trans (grown_of_grew hw8 _)⟩
            case rest =>
              clear HO HV HC HG HB hc0 hc1 hc2 hc3 hc4 hc5 hbl hzw hgb hv1 hv2 hv3
              obtain ⟨g2, d2, u, rfl, hd2, hg2, hO2, hO1, hgb, hC, hG⟩ := hcut
              have hNl : (L ++ [u]).length = L.length + 1 := by simp
              generalize L ++ [u] = N at hNl hd2 hO2 ⊢
              have hN9 : N.length ≤ 6 := by omega
              have HNL := hid hNl
              obtain ⟨q, hqq⟩ : ∃ q, lightsB N = q := ⟨_, rfl⟩
              have HQ := hid hqq
              have HO1 := hid hO1
              have HO2 := hid hO2
              have HC := hid hC
              have HG := hid hG
              clear hNl hqq hO1 hO2 hC hG
              cases q
              · go_wp2_with (go_at_call 31; refine (s_l24Good N _ d2 _ HQ.out _ (HO2.out.lts.sl.grew (by (repeat (first | with_reducible exact grew_refl _ | with_reducible assumption | with_reducible refine grew_split ?_ | with_reducible refine grew_mk ?_ | with_reducible refine grew_plus ?_ | with_reducible refine grew_alloc ?_ | with_reducible refine grew_drew ?_ | (with_reducible refine grew_set ?_ (by first | exact Nat.le_refl _ | omega | (simp [go_sem]; done) | (simp [go_sem]; omega))))))) (HO2.out.lts.grew (by (repeat (first | with_reducible exact grew_refl _ | with_reducible assumption | with_reducible refine grew_split ?_ | with_reducible refine grew_mk ?_ | with_reducible refine grew_plus ?_ | with_reducible refine grew_alloc ?_ | with_reducible refine grew_drew ?_ | (with_reducible refine grew_set ?_ (by first | exact Nat.le_refl _ | omega | (simp [go_sem]; done) | (simp [go_sem]; omega))))))).at_ (by unfold maxLen; omega)).mono ?_; (rintro e w' ⟨rfl, gx, rfl⟩))
                refine (s_one w0 g A c bs _ 40 _ hA (HC.out.grew' (by (repeat (first | with_reducible exact grew_refl _ | with_reducible assumption | with_reducible refine grew_split ?_ | with_reducible refine grew_mk ?_ | with_reducible refine grew_plus ?_ | with_reducible refine grew_alloc ?_ | with_reducible refine grew_drew ?_ | (with_reducible refine grew_set ?_ (by first | exact Nat.le_refl _ | omega | (simp [go_sem]; done) | (simp [go_sem]; omega))))))) (by omega) (by omega)).mono ?_
                rintro e w9 ⟨⟨q, rfl⟩, hC9, hG9⟩
                have hz9 := hG9.size
                simp [go_sem] at hz9
                cases q
                · go_wp2_with fail
                  go_meet
                  exact ⟨_, rfl, by omega, by omega, gb, d, L, rfl, by omega, hLd, (HO1.out.grew (by (repeat (first | with_reducible exact grew_refl _ | with_reducible assumption | with_reducible refine grew_split ?_ | with_reducible refine grew_mk ?_ | with_reducible refine grew_plus ?_ | with_reducible refine grew_alloc ?_ | with_reducible refine grew_drew ?_ | (with_reducible refine grew_set ?_ (by first | exact Nat.le_refl _ | omega | (simp [go_sem]; done) | (simp [go_sem]; omega))))))).kept hG9 (fun k hk => by injection hk with hk; omega), by omega, hC9.le (by omega), (HG.out.trans (grown_of_grew (by (repeat (first | with_reducible exact grew_refl _ | with_reducible assumption | with_reducible refine grew_split ?_ | with_reducible refine grew_mk ?_ | with_reducible refine grew_plus ?_ | with_reducible refine grew_alloc ?_ | with_reducible refine grew_drew ?_ | (with_reducible refine grew_set ?_ (by first | exact Nat.le_refl _ | omega | (simp [go_sem]; done) | (simp [go_sem]; omega)))))) _)).trans hG9⟩
                · go_wp2_with fail
                  go_meet
                  exact ⟨_, rfl, by omega, by omega, g2, d2, N, rfl, by have := HNL.out; omega, hd2, (HO2.out.grew (by (repeat (first | with_reducible exact grew_refl _ | with_reducible assumption | with_reducible refine grew_split ?_ | with_reducible refine grew_mk ?_ | with_reducible refine grew_plus ?_ | with_reducible refine grew_alloc ?_ | with_reducible refine grew_drew ?_ | (with_reducible refine grew_set ?_ (by first | exact Nat.le_refl _ | omega | (simp [go_sem]; done) | (simp [go_sem]; omega))))))).kept hG9 (fun k hk => by injection hk with hk; omega), by omega, hC9.le (by omega), (HG.out.trans (grown_of_grew (by (repeat (first | with_reducible exact grew_refl _ | with_reducible assumption | with_reducible refine grew_split ?_ | with_reducible refine grew_mk ?_ | with_reducible refine grew_plus ?_ | with_reducible refine grew_alloc ?_ | with_reducible refine grew_drew ?_ | (with_reducible refine grew_set ?_ (by first | exact Nat.le_refl _ | omega | (simp [go_sem]; done) | (simp [go_sem]; omega)))))) _)).trans hG9⟩
              · go_wp2_with (go_at_call 31; refine (s_l24Good N _ d2 _ HQ.out _ (HO2.out.lts.sl.grew (by (repeat (first | with_reducible exact grew_refl _ | with_reducible assumption | with_reducible refine grew_split ?_ | with_reducible refine grew_mk ?_ | with_reducible refine grew_plus ?_ | with_reducible refine grew_alloc ?_ | with_reducible refine grew_drew ?_ | (with_reducible refine grew_set ?_ (by first | exact Nat.le_refl _ | omega | (simp [go_sem]; done) | (simp [go_sem]; omega))))))) (HO2.out.lts.grew (by (repeat (first | with_reducible exact grew_refl _ | with_reducible assumption | with_reducible refine grew_split ?_ | with_reducible refine grew_mk ?_ | with_reducible refine grew_plus ?_ | with_reducible refine grew_alloc ?_ | with_reducible refine grew_drew ?_ | (with_reducible refine grew_set ?_ (by first | exact Nat.le_refl _ | omega | (simp [go_sem]; done) | (simp [go_sem]; omega))))))).at_ (by unfold maxLen; omega)).mono ?_; (rintro e w' ⟨rfl, gx, rfl⟩))
                go_meet
                exact ⟨_, rfl, by omega, by omega, g2, d2, N, rfl, by have := HNL.out; omega, hd2, HO2.out.grew (by (repeat (first | with_reducible exact grew_refl _ | with_reducible assumption | with_reducible refine grew_split ?_ | with_reducible refine grew_mk ?_ | with_reducible refine grew_plus ?_ | with_reducible refine grew_alloc ?_ | with_reducible refine grew_drew ?_ | (with_reducible refine grew_set ?_ (by first | exact Nat.le_refl _ | omega | (simp [go_sem]; done) | (simp [go_sem]; omega)))))), by simp [go_sem]; omega, (HC.out.grew' (by (repeat (first | with_reducible exact grew_refl _ | with_reducible assumption | with_reducible refine grew_split ?_ | with_reducible refine grew_mk ?_ | with_reducible refine grew_plus ?_ | with_reducible refine grew_alloc ?_ | with_reducible refine grew_drew ?_ | (with_reducible refine grew_set ?_ (by first | exact Nat.le_refl _ | omega | (simp [go_sem]; done) | (simp [go_sem]; omega))))))).le (by omega), HG.out.trans (grown_of_grew (by (repeat (first | with_reducible exact grew_refl _ | with_reducible assumption | with_reducible refine grew_split ?_ | with_reducible refine grew_mk ?_ | with_reducible refine grew_plus ?_ | with_reducible refine grew_alloc ?_ | with_reducible refine grew_drew ?_ | (with_reducible refine grew_set ?_ (by first | exact Nat.le_refl _ | omega | (simp [go_sem]; done) | (simp [go_sem]; omega)))))) _)⟩
      case rest =>
        obtain ⟨id', rfl, i0, i1, hL⟩ := hcut
        clear HO HC HG
        go_wp2_with fail
        go_roundw
        case rel => exact ⟨k + 1, id', by omega, rfl, rfl, i0, by omega, by rw [show M + 2 + 220 * ((k + 1 : Nat) : Int) = M + 2 + 220 * (k : Int) + 220 by omega]; exact hL⟩
        case measure => simp [intOf]; omega
    · have hz : n - k = 0 := by omega
      rw [hz]
      clear hz hlt
      go_wp2_with fail
      refine (s_one w0 g A c bs _ 24 _ hA HC.out (by omega) (by omega)).mono ?_
      rintro e w2 ⟨⟨q, rfl⟩, hC2, hG2⟩
      have HO2 := hid (HO.out.kept hG2 (fun k hk => by injection hk with hk; omega))
      have HC2 := hid hC2
      have HG2 := hid (HG.out.trans hG2)
      have hsz2 := (HG.out.trans hG2).size
      clear hC2 hG2 HO HC HG
      go_upto_if 52 with fail
      go_cut [3] (fun o wx => ∃ (B : Option Addr) (d : Nat) (L : List LightV), o = .slice B L.length d ∧ L.length ≤ 12 ∧ L.length ≤ d ∧ LtsO w.heap.size wx B L ∧ CurU w0 wx g A c bs (M + 2900) ∧ w.grownBy wx (some g))
      case first =>
        cases q
        · go_wp2_with fail
          go_meet
          exact ⟨_, d, L, rfl, by omega, hLd, HO2.out, HC2.out.le (by omega), HG2.out⟩
        · go_wp2_with fail
          go_loopw [3, 8] (fun o i wr => ∃ (k : Nat) (B : Option Addr) (d : Nat) (L : List LightV), k ≤ 11 ∧ i = .int .i64 k ∧ o = .slice B L.length d ∧ L.length ≤ k ∧ Own w.heap.size 55 6 LightV.row wr B d L ∧ (∀ u ∈ L, OwnF w.heap.size 68 2 PhaseR.row wr u.A u.core.ph) ∧ (∀ u ∈ L, u.core.nm.size ≤ 20 ∧ 0 < u.core.ph.length ∧ u.core.ph.length ≤ 12) ∧ CurU w0 wr g A c bs (M + 1200 + 4 * (k : Int)) ∧ w.grownBy wr (some g)) (fun _ i _ => 12 - (intOf i).toNat)
          case atStart => exact ⟨0, _, _, [], by omega, rfl, rfl, by simp, Own.newIn (o := .cells #[] 55) (w := w2) (by (repeat (first | with_reducible exact grew_refl _ | with_reducible assumption | with_reducible refine grew_split ?_ | with_reducible refine grew_mk ?_ | with_reducible refine grew_plus ?_ | with_reducible refine grew_alloc ?_ | with_reducible refine grew_drew ?_ | (with_reducible refine grew_set ?_ (by first | exact Nat.le_refl _ | omega | (simp [go_sem]; done) | (simp [go_sem]; omega)))))) rfl rfl hsz2, by simp, by simp, (HC2.out.grew' (by (repeat (first | with_reducible exact grew_refl _ | with_reducible assumption | with_reducible refine grew_split ?_ | with_reducible refine grew_mk ?_ | with_reducible refine grew_plus ?_ | with_reducible refine grew_alloc ?_ | with_reducible refine grew_drew ?_ | (with_reducible refine grew_set ?_ (by first | exact Nat.le_refl _ | omega | (simp [go_sem]; done) | (simp [go_sem]; omega))))))).le (by omega), HG2.out.trans (grown_of_grew (by (repeat (first | with_reducible exact grew_refl _ | with_reducible assumption | with_reducible refine grew_split ?_ | with_reducible refine grew_mk ?_ | with_reducible refine grew_plus ?_ | with_reducible refine grew_alloc ?_ | with_reducible refine grew_drew ?_ | (with_reducible refine grew_set ?_ (by first | exact Nat.le_refl _ | omega | (simp [go_sem]; done) | (simp [go_sem]; omega)))))) _)⟩
          case round =>
            clear HO2 HC2 HG2 hLd hLn hgb id0 id1
            obtain ⟨k, B, d, L, hk, rfl, rfl, hL, hO, hP, hS, hC, hG⟩ := hrel
            have HO := hid hO
            have HP := hid hP
            have HS := hid hS
            have HC := hid hC
            have HG := hid hG
            clear hO hP hS hC hG
            go_wp2_with fail
            refine (s_pick w0 g A c bs _ 2 _ hA HC.out (by omega) (by omega)).mono ?_
            rintro e w3 ⟨⟨y, rfl, y0, y1'⟩, hC3, hG3⟩
            have y1 : y ≤ 1 := by omega
            have HC3 := hid hC3
            have HO3 := hid (HO.out.keptG hG3 hgl)
            have HP3 := hid (show ∀ u ∈ L, OwnF w.heap.size 68 2 PhaseR.row w3 u.A u.core.ph from fun u hu => (HP.out u hu).kept hG3 (fun k hk => by injection hk with hk; omega))
            have HG3 := hid (HG.out.trans hG3)
            have hz3 := HG3.out.size
            clear hC3 hG3 y1' HO HP HC HG
            by_cases hlt : (k : Int) < 10 + y
            · have hw8 : IntKind.u8.wrap (97 + (k : Int)) = 97 + (k : Int) := by rw [IntKind.wrap_u8]; omega
              have hback : ∀ W : World, (convert 34 9 (.slice (some ⟨W.heap.size, 0, none⟩) 1 1)).run Try.prog (W.alloc (.cells #[.int .u8 (97 + (k : Int))] 5)) = .ok (.string ⟨#[UInt8.ofNat (97 + k)]⟩) (W.alloc (.cells #[.int .u8 (97 + (k : Int))] 5)) := fun W => back_bL W (97 + k) (by omega) _ (by omega)
              go_upto_region 17 with (at_builtin; go_loud (refine wpList_appB (B := w.heap.size) rfl _ _ _ rfl 55 6 72 _ Try.underlying27 light_inf rfl (by omega) (by omega) B d L L.length rfl rfl (HO3.out.grew (by (repeat (first | with_reducible exact grew_refl _ | with_reducible assumption | with_reducible refine grew_split ?_ | with_reducible refine grew_mk ?_ | with_reducible refine grew_plus ?_ | with_reducible refine grew_alloc ?_ | with_reducible refine grew_drew ?_ | (with_reducible refine grew_set ?_ (by first | exact Nat.le_refl _ | omega | (simp [go_sem]; done) | (simp [go_sem]; omega))))))) (by first | (simp [go_sem]; done) | (simp [go_sem]; omega) | (simp [go_sem, Ext.add]; done) | (simp [go_sem, Ext.add]; omega) | omega) (by omega) _ (⟨⟨(k : Int) + 1, ⟨#[97 + UInt8.ofNat k]⟩, 0, 0, 5, [⟨true, 1 + (k : Int)⟩, ⟨false, 9⟩]⟩, some ⟨w3.heap.size + 1, 0, none⟩, 2⟩ : LightV) _ rfl rfl (by exact light_news (blk_new (by first | (simp [go_sem]; done) | (simp [go_sem]; omega) | (simp [go_sem, Ext.add]; done) | (simp [go_sem, Ext.add]; omega) | omega))) (LightV.one _) ?_); intro A9 c9 w9 hO9 hg9 hat9; have hB9 := blk_keptD (blk_grew (blk_new (w := w3.alloc (.cells #[.int .u8 (97 + (k : Int))] 5)) (b := w3.heap.size + 1) (t := 68) (cs := #[.bool true, .int .i64 (1 + (k : Int)), .bool false, .int .i64 9]) (by simp)) (by (repeat (first | with_reducible exact grew_refl _ | with_reducible assumption | with_reducible refine grew_split ?_ | with_reducible refine grew_mk ?_ | with_reducible refine grew_plus ?_ | with_reducible refine grew_alloc ?_ | with_reducible refine grew_drew ?_ | (with_reducible refine grew_set ?_ (by first | exact Nat.le_refl _ | omega | (simp [go_sem]; done) | (simp [go_sem]; omega))))))) (HO3.out.grew (by (repeat (first | with_reducible exact grew_refl _ | with_reducible assumption | with_reducible refine grew_split ?_ | with_reducible refine grew_mk ?_ | with_reducible refine grew_plus ?_ | with_reducible refine grew_alloc ?_ | with_reducible refine grew_drew ?_ | (with_reducible refine grew_set ?_ (by first | exact Nat.le_refl _ | omega | (simp [go_sem]; done) | (simp [go_sem]; omega))))))) (by decide) hg9; have HP9 := hid (show ∀ u ∈ L, OwnF w.heap.size 68 2 PhaseR.row w9 u.A u.core.ph from fun u hu => ownF_own ((HP3.out u hu).grew (by (repeat (first | with_reducible exact grew_refl _ | with_reducible assumption | with_reducible refine grew_split ?_ | with_reducible refine grew_mk ?_ | with_reducible refine grew_plus ?_ | with_reducible refine grew_alloc ?_ | with_reducible refine grew_drew ?_ | (with_reducible refine grew_set ?_ (by first | exact Nat.le_refl _ | omega | (simp [go_sem]; done) | (simp [go_sem]; omega))))))) (HO3.out.grew (by (repeat (first | with_reducible exact grew_refl _ | with_reducible assumption | with_reducible refine grew_split ?_ | with_reducible refine grew_mk ?_ | with_reducible refine grew_plus ?_ | with_reducible refine grew_alloc ?_ | with_reducible refine grew_drew ?_ | (with_reducible refine grew_set ?_ (by first | exact Nat.le_refl _ | omega | (simp [go_sem]; done) | (simp [go_sem]; omega))))))) (by decide) hg9); have HV9 := hid (two_ownF (B := w.heap.size) (x := ⟨true, 1 + (k : Int)⟩) (y := ⟨false, 9⟩) hB9 (by omega)); have HC9 := hid ((HC3.out.grew' (by (repeat (first | with_reducible exact grew_refl _ | with_reducible assumption | with_reducible refine grew_split ?_ | with_reducible refine grew_mk ?_ | with_reducible refine grew_plus ?_ | with_reducible refine grew_alloc ?_ | with_reducible refine grew_drew ?_ | (with_reducible refine grew_set ?_ (by first | exact Nat.le_refl _ | omega | (simp [go_sem]; done) | (simp [go_sem]; omega))))))).kept hg9 (fun k hk => by have := own_lo HO3.out hk hgl; omega)); have HG9 := hid (grown_join (HG3.out.trans (grown_of_grew (by (repeat (first | with_reducible exact grew_refl _ | with_reducible assumption | with_reducible refine grew_split ?_ | with_reducible refine grew_mk ?_ | with_reducible refine grew_plus ?_ | with_reducible refine grew_alloc ?_ | with_reducible refine grew_drew ?_ | (with_reducible refine grew_set ?_ (by first | exact Nat.le_refl _ | omega | (simp [go_sem]; done) | (simp [go_sem]; omega)))))) _)) hg9 (fun k hk => (own_lo HO3.out hk hgl).2)); have HO9 := hid hO9; clear hO9 hg9 hat9 hB9)
              clear hw8 hback
              go_wp2_with fail
              go_roundw
              case rel =>
                refine ⟨k + 1, A9, c9, _, by omega, by go_num, vsl (by simp), by simp; omega, HO9.out, ?_, ?_, HC9.out.le (by omega), HG9.out⟩
                · intro u hu
                  rcases List.mem_append.1 hu with hu | hu
                  · exact HP9.out u hu
                  · simp at hu; subst hu; exact HV9.out
                · intro u hu
                  rcases List.mem_append.1 hu with hu | hu
                  · exact HS.out u hu
                  · simp at hu; subst hu; exact ⟨by show (1 : Nat) ≤ 20; omega, by show (0 : Nat) < 2; omega, by show (2 : Nat) ≤ 12; omega⟩
              case measure => simp [intOf]; omega
            · go_wp2_with fail
              go_meet
              refine ⟨B, d, L, rfl, by omega, ?_, ⟨HO3.out.f (fun _ => rfl), HP3.out, HS.out⟩, HC3.out.le (by omega), HG3.out⟩
              by_cases h0 : 0 < L.length
              · obtain ⟨_, _, _, hcap, _⟩ := own_split HO3.out (fun _ => rfl) h0
                exact hcap
              · omega
      case rest =>
        obtain ⟨B, d, L, rfl, hl, hd, hO, hC, hG⟩ := hcut
        have HO := hid hO
        have HC := hid hC
        have HG := hid hG
        clear hO hC hG HO2 HC2 HG2
        go_wp2_with fail
        go_ret
        exact ⟨⟨B, d, L, rfl, hl, hd, HO.out⟩, HC.out.le (by omega), HG.out⟩
end Go.Proofs.Ytjlaidjogladaaa
