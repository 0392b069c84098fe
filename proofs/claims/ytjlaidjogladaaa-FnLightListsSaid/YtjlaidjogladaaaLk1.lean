/- Lists of lights: what sizes bound, and the laws' marks. -/
import Derived.Test.YtjlaidjogladaaaLi6
import Derived.Test.YtjlaidjogladaaaMt
import Derived.Test.YtjlaidjogladaaaK1
namespace Go.Proofs.Ytjlaidjogladaaa
open Go.RowKit

theorem l_markTextI (x : Int) (w : World) (h0 : 0 ≤ x) (h1 : x ≤ 1000000000000) :
    Calls Try.prog 39 #[.int .i64 x] w fun e w' => e = .returned (.string (markT x)) ∧ ∃ g, w' = plus w g := by
  obtain ⟨k, rfl⟩ := Int.eq_ofNat_of_zero_le h0
  exact l_markText k w h1
/-- How many phases the first k lights have together. -/
def phTo (L : List LightV) (k : Nat) : Nat := ((List.range k).map fun i => if h : i < L.length then L[i].core.ph.length else 0).sum
theorem phTo_succ {L : List LightV} {k : Nat} (h : k < L.length) : phTo L (k + 1) = phTo L k + L[k].core.ph.length := by
  simp [phTo, List.range_succ, h]
theorem phTo_mono (L : List LightV) {k n : Nat} (h : k ≤ n) : phTo L k ≤ phTo L n := by
  obtain ⟨d, rfl⟩ := Nat.exists_eq_add_of_le h
  clear h
  induction d with
  | zero => exact Nat.le_refl _
  | succ d ih => refine Nat.le_trans ih ?_; rw [← Nat.add_assoc]; simp [phTo, List.range_succ]
theorem phTo_one {L : List LightV} {k : Nat} (h : k < L.length) : L[k].core.ph.length ≤ phTo L L.length := by
  have h1 := phTo_succ h
  have h2 := phTo_mono L (show k + 1 ≤ L.length by omega)
  omega
theorem Alike.phTo {L M : List LightV} (h : Alike L M) (k : Nat) : phTo L k = Go.Proofs.Ytjlaidjogladaaa.phTo M k := by
  unfold Go.Proofs.Ytjlaidjogladaaa.phTo
  congr 1
  refine List.map_congr_left fun i _ => ?_
  by_cases hi : i < L.length
  · have hi' : i < M.length := by have := h.1; omega
    simp only [hi, hi', ↓reduceDIte, h.2 i hi hi']
  · have hi' : ¬ i < M.length := by have := h.1; omega
    simp only [hi, hi', ↓reduceDIte]
set_option maxHeartbeats 400000 in
theorem l_szPhaseS2 (A : Option Addr) (m c : Nat) (n : Int) (w : World) (hl : m ≤ maxLen) (h0 : 0 ≤ n) (h1 : n ≤ 1048576) :
    Calls Try.prog 63 #[.slice A m c, .int .i64 n] w fun e' w' => (∃ k, e' = .returned (.int .i64 k) ∧ -1 ≤ k ∧ k ≤ n ∧ (0 ≤ k → k + m ≤ n)) ∧ ∃ g, w' = plus w g := by
  unfold maxLen at hl
  go_enter Try.func63, Try.ntmps63
  go_wp2
  all_goals
    go_ret
    exact ⟨⟨_, rfl, by omega, by omega, by omega⟩, by (repeat (first | with_reducible exact grew_refl _ | with_reducible assumption | with_reducible refine grew_split ?_ | with_reducible refine grew_mk ?_ | with_reducible refine grew_plus ?_ | with_reducible refine grew_alloc ?_ | with_reducible refine grew_drew ?_ | (with_reducible refine grew_set ?_ (by first | exact Nat.le_refl _ | omega | (simp [go_sem]; done) | (simp [go_sem]; omega)))))⟩
set_option maxHeartbeats 1000000 in
theorem l_szLight2 (v : LightV) (n : Int) (w : World) (hv : v.At w) (h0 : 0 ≤ n) (h1 : n ≤ 1048576) :
    Calls Try.prog 30 #[v.val, .int .i64 n] w fun e' w' => (∃ k, e' = .returned (.int .i64 k) ∧ -1 ≤ k ∧ k ≤ n ∧ (0 ≤ k → k + v.core.ph.length ≤ n)) ∧ ∃ g, w' = plus w g := by
  obtain ⟨⟨id, nm, x, y, rg, ph⟩, A, c⟩ := v
  have hl := hv.len
  have hn := hv.nm
  simp only at hl hn ⊢
  clear hv
  have hn' := hn
  unfold maxLen at hn'
  go_enter Try.func30, Try.ntmps30
  go_wp2_with (go_at_call 63; refine (l_szPhaseS2 _ _ _ _ _ hl (by omega) (by omega)).mono ?_; rintro e w' ⟨⟨kz, rfl, hkz, hkz1, hkz2⟩, gx, rfl⟩)
  all_goals
    go_ret
    exact ⟨⟨_, rfl, by omega, by omega, by omega⟩, by (repeat (first | with_reducible exact grew_refl _ | with_reducible assumption | with_reducible refine grew_split ?_ | with_reducible refine grew_mk ?_ | with_reducible refine grew_plus ?_ | with_reducible refine grew_alloc ?_ | with_reducible refine grew_drew ?_ | (with_reducible refine grew_set ?_ (by first | exact Nat.le_refl _ | omega | (simp [go_sem]; done) | (simp [go_sem]; omega)))))⟩
set_option maxHeartbeats 1000000 in
theorem l_szLightS2 (L : List LightV) (A : Option Addr) (c : Nat) (n : Int) (w : World) (hA : Sl w 6 LightV.row A L) (hat : ∀ u ∈ L, u.At w) (hl : L.length ≤ maxLen) (h0 : 0 ≤ n) (h1 : n ≤ 1048576) :
    Calls Try.prog 5 #[.slice A L.length c, .int .i64 n] w fun e' w' => (∃ k, e' = .returned (.int .i64 k) ∧ -1 ≤ k ∧ k ≤ n ∧ (0 ≤ k → (L.length : Int) + phTo L L.length ≤ n)) ∧ ∃ g, w' = plus w g := by
  unfold maxLen at hl
  by_cases hneg : n - (L.length : Int) < 0
  · go_enter Try.func5, Try.ntmps5
    go_wp2
    go_ret
    exact ⟨⟨_, rfl, by omega, by omega, by omega⟩, by (repeat (first | with_reducible exact grew_refl _ | with_reducible assumption | with_reducible refine grew_split ?_ | with_reducible refine grew_mk ?_ | with_reducible refine grew_plus ?_ | with_reducible refine grew_alloc ?_ | with_reducible refine grew_drew ?_ | (with_reducible refine grew_set ?_ (by first | exact Nat.le_refl _ | omega | (simp [go_sem]; done) | (simp [go_sem]; omega)))))⟩
  have HAT := hid hat
  clear hat
  go_enter Try.func5, Try.ntmps5
  go_wp2_with fail
  go_loopw [1, 5] (fun q i wr => ∃ (k : Nat) (m : Int), k ≤ L.length ∧ i = .int .i64 k ∧ q = .int .i64 m ∧ 0 ≤ m ∧ m ≤ n ∧ Hid (m + phTo L k + L.length ≤ n) ∧ (∃ g, wr = plus w g)) (fun _ i _ => L.length - (intOf i).toNat)
  case atStart => exact ⟨0, _, Nat.zero_le _, rfl, rfl, by omega, by omega, hid (by simp [phTo]), _, plus_refl _⟩
  case round =>
    obtain ⟨k, m, hk, rfl, rfl, hm0, hm1, HALL, g, rfl⟩ := hrel
    by_cases hlt : k < L.length
    · obtain ⟨b, off, rfl, hb, hc⟩ := hA.at_ hlt
      obtain ⟨hc0, hc1, hc2, hc3, hc4, hc5⟩ := lt6 hc hlt
      clear hc hA
      go_wp2_with fail
      refine (l_szLight2 L[k] m _ ((HAT.out L[k] (List.getElem_mem hlt)).grew (by (repeat (first | with_reducible exact grew_refl _ | with_reducible assumption | with_reducible refine grew_split ?_ | with_reducible refine grew_mk ?_ | with_reducible refine grew_plus ?_ | with_reducible refine grew_alloc ?_ | with_reducible refine grew_drew ?_ | (with_reducible refine grew_set ?_ (by first | exact Nat.le_refl _ | omega | (simp [go_sem]; done) | (simp [go_sem]; omega))))))) (by omega) (by omega)).mono ?_
      rintro e w' ⟨⟨kz, rfl, hkz, hkz1, hkz2⟩, gx, rfl⟩
      by_cases hneg : kz < 0
      · clear hkz2
        go_wp2
        go_ret
        exact ⟨⟨_, rfl, by omega, by omega, by omega⟩, by (repeat (first | with_reducible exact grew_refl _ | with_reducible assumption | with_reducible refine grew_split ?_ | with_reducible refine grew_mk ?_ | with_reducible refine grew_plus ?_ | with_reducible refine grew_alloc ?_ | with_reducible refine grew_drew ?_ | (with_reducible refine grew_set ?_ (by first | exact Nat.le_refl _ | omega | (simp [go_sem]; done) | (simp [go_sem]; omega)))))⟩
      · have HZ := hid (hkz2 (by omega))
        clear hkz2
        go_wp2
        go_roundw
        case rel =>
          refine ⟨k + 1, _, by omega, by go_num, rfl, by omega, by omega, hid ?_, by (repeat (first | with_reducible exact grew_refl _ | with_reducible assumption | with_reducible refine grew_split ?_ | with_reducible refine grew_mk ?_ | with_reducible refine grew_plus ?_ | with_reducible refine grew_alloc ?_ | with_reducible refine grew_drew ?_ | (with_reducible refine grew_set ?_ (by first | exact Nat.le_refl _ | omega | (simp [go_sem]; done) | (simp [go_sem]; omega)))))⟩
          have h1 := HZ.out
          have h2 := HALL.out
          rw [phTo_succ hlt]
          omega
        case measure => simp [intOf]; omega
    · obtain rfl : k = L.length := by omega
      clear hA
      go_wp2
      go_ret
      exact ⟨⟨_, rfl, by omega, by omega, fun _ => by have := HALL.out; omega⟩, by (repeat (first | with_reducible exact grew_refl _ | with_reducible assumption | with_reducible refine grew_split ?_ | with_reducible refine grew_mk ?_ | with_reducible refine grew_plus ?_ | with_reducible refine grew_alloc ?_ | with_reducible refine grew_drew ?_ | (with_reducible refine grew_set ?_ (by first | exact Nat.le_refl _ | omega | (simp [go_sem]; done) | (simp [go_sem]; omega)))))⟩
set_option maxHeartbeats 1000000 in
theorem l_markPhaseS (lo hi n : Nat) (A : Option Addr) (c : Nat) (m : Int) (w : World) (hO : Room lo hi 68 2 w A n) (hl : (n : Int) ≤ 1073741824) (h0 : 0 ≤ m) (h1 : m ≤ 1099511627776) :
    Calls Try.prog 40 #[.slice A n c, .int .i64 m] w fun e' w' => e' = .returned (.int .i64 (m + 2 * n)) ∧ (∃ row, w.grownBy w' row ∧ ∀ k, row = some k → (A = some ⟨k, 0, none⟩ ∧ 0 < n) ∧ lo ≤ k ∧ k < hi) ∧ Sized w w' := by
  rcases Room.split hO with rfl | ⟨hpos, g, cs, rfl, hb, hb', hB, hs⟩
  · go_enter Try.func40, Try.ntmps40
    go_wp2_with fail
    go_loopw [1, 5] (fun q i wr => i = .int .i64 0 ∧ q = .int .i64 m ∧ w = wr) (fun _ _ _ => 0)
    case atStart => exact ⟨rfl, rfl, rfl⟩
    case round =>
      obtain ⟨rfl, rfl, rfl⟩ := hrel
      go_wp2
      go_ret
      exact ⟨ret_int (by simp), ⟨none, grown_refl _ _, by simp⟩, Sized.refl _⟩
  · have HB := hid hB
    have HS0 := hid hs
    have HBB := hid (And.intro hb hb')
    clear hb hb'
    go_enter Try.func40, Try.ntmps40
    go_wp2_with fail
    go_loopw [1, 5] (fun q i wr => ∃ (k : Nat) (cs' : Array Value), k ≤ n ∧ i = .int .i64 k ∧ q = .int .i64 (m + 2 * k) ∧ Blk wr g 68 cs' ∧ cs'.size = cs.size ∧ w.grownBy wr (some g)) (fun _ i _ => n - (intOf i).toNat)
    case atStart => exact ⟨0, _, Nat.zero_le _, rfl, by simp, hB, rfl, grown_refl _ _⟩
    case round =>
      clear hB
      obtain ⟨k, cs', hk, rfl, rfl, hB, hs', hg⟩ := hrel
      have HG := hid hg
      have HC := hid hB
      have HS := hid hs'
      clear hg
      by_cases hlt : k < n
      · obtain ⟨⟨_, hz0⟩, ⟨_, hz1⟩, hf0, hf1⟩ := hB.some2 (k * 2) (by omega)
        clear hB hs hs'
        go_wp2
        go_roundw
        case rel =>
          have h2 := HC.out.put2 (k * 2) (.bool ((m + 2 * (k : Int)) % 3 == 0)) (.int .i64 (m + 2 * (k : Int) + 1))
          exact ⟨k + 1, _, by omega, by go_num, by go_num, h2, by rw [size_put]; exact HS.out, grown_set (grown_set HG.out)⟩
        case measure => simp [intOf]; omega
      · obtain rfl : k = n := by omega
        clear hB hs hs'
        go_wp2
        go_ret
        exact ⟨rfl, ⟨some g, HG.out, fun k hk => by injection hk with hk; subst hk; exact ⟨⟨rfl, hpos⟩, HBB.out⟩⟩, Sized.of HG.out HB.out HC.out HS.out⟩
/-- A list of lights of a call's own, as marking wants it. -/
structure MarkL (lo hi : Nat) (w : World) (A : Option Addr) (L : List LightV) : Prop where
  own : OwnF lo 55 6 LightV.row w A L
  lt : ∀ g, A = some ⟨g, 0, none⟩ → L ≠ [] → g < hi
  ph : ∀ u ∈ L, Room lo hi 68 2 w u.A u.core.ph.length
  ne : ∀ u ∈ L, 0 < u.core.ph.length → ∀ g, A = some ⟨g, 0, none⟩ → u.A ≠ some ⟨g, 0, none⟩
theorem MarkL.grew {lo hi : Nat} {w w' : World} {A : Option Addr} {L : List LightV} (h : MarkL lo hi w A L) (hg : ∃ g, w' = plus w g) : MarkL lo hi w' A L :=
  ⟨h.own.grew hg, h.lt, fun u hu => (h.ph u hu).grew hg, h.ne⟩
set_option maxHeartbeats 4000000 in
theorem l_markLightS (lo hi : Nat) (L : List LightV) (A : Option Addr) (c : Nat) (m : Int) (w : World) (hM : MarkL lo hi w A L) (hz : (L.length : Int) + phTo L L.length ≤ 1048576) (h0 : 0 ≤ m) (h1 : m ≤ 1000) :
    Calls Try.prog 11 #[.slice A L.length c, .int .i64 m] w fun e' w' => (∃ k, e' = .returned (.int .i64 k) ∧ 0 ≤ k) ∧ KeptF lo hi w w' := by
  have HN := hid hM.ne
  have HP := hid hM.ph
  have HL := hid hM.lt
  rcases OwnF.split hM.own with rfl | ⟨hpos, g, cs, rfl, hb, hB, hs, hF⟩
  · clear hM
    go_enter Try.func11, Try.ntmps11
    go_wp2_with fail
    go_loopw [1, 5] (fun q i wr => i = .int .i64 0 ∧ q = .int .i64 m ∧ w = wr) (fun _ _ _ => 0)
    case atStart => exact ⟨rfl, rfl, rfl⟩
    case round =>
      obtain ⟨rfl, rfl, rfl⟩ := hrel
      go_wp2
      go_ret
      exact ⟨⟨_, rfl, h0⟩, KeptF.refl _ _ _⟩
  · have HBB := hid (And.intro hb (HL.out g rfl (by intro h; subst h; simp at hpos)))
    have HC0 : Hid (∀ i (hi : i < L.length), cs[i * 6 + 5]? = some (.slice L[i].A L[i].core.ph.length L[i].c)) := hid (fun i hi => hF i hi hi 5 _ rfl)
    have HZ := hid hz
    have HB0 := hid hB
    have HS0 := hid hs
    have hLl : (L.length : Int) ≤ 1048576 := by omega
    clear hM hF hb hpos hz hB hs HL
    go_enter Try.func11, Try.ntmps11
    go_wp2_with fail
    go_loopw [1, 5] (fun q i wr => ∃ (k : Nat) (m' : Int) (cs' : Array Value), k ≤ L.length ∧ i = .int .i64 k ∧ q = .int .i64 m' ∧ 0 ≤ m' ∧ Hid (m' ≤ m + 5 * k + 2 * phTo L k) ∧ m' ≤ 10000000 ∧ Blk wr g 55 cs' ∧ Hid (cs'.size = cs.size) ∧ Hid (∀ i (hi : i < L.length), k ≤ i → cs'[i * 6 + 5]? = some (.slice L[i].A L[i].core.ph.length L[i].c)) ∧ Hid (KeptF lo hi w wr ∧ Sized w wr)) (fun _ i _ => L.length - (intOf i).toNat)
    case atStart => exact ⟨0, m, cs, Nat.zero_le _, rfl, rfl, h0, hid (by simp [phTo]), by omega, HB0.out, hid rfl, hid (fun i hi _ => HC0.out i hi), hid ⟨KeptF.refl _ _ _, Sized.refl _⟩⟩
    case round =>
      obtain ⟨k, m', cs', hk, rfl, rfl, q0, HQ, q1, hB, HSZ, HCS, HK⟩ := hrel
      have HC := hid hB
      by_cases hlt : k < L.length
      · have hsz : k * 6 + 6 ≤ cs'.size := by have := HSZ.out; have := HS0.out; omega
        obtain ⟨⟨_, hz0⟩, ⟨_, hz1⟩, ⟨_, hz2⟩, ⟨_, hz3⟩, ⟨_, hz4⟩, ⟨_, hz5⟩, hf0, hf1, hf2, hf3, hf4, hf5⟩ := hB.some6 (k * 6) hsz
        have hz5' := (HC.out.cell (k * 6 + 5)).trans (HCS.out k hlt (Nat.le_refl _))
        clear hz5
        have hgl := hB.lt
        have hph : ((L[k].core.ph.length : Nat) : Int) ≤ 1048576 := by have := HZ.out; have := phTo_one hlt; omega
        clear hB hsz
        go_wp2_with fail
        refine (l_markTextI (m' + 1) _ (by omega) (by omega)).mono ?_
        (rintro e w' ⟨rfl, gx, rfl⟩)
        go_wp2_with fail
        have h5 := HC.out.put5 (k * 6) (.int .i64 m') (.string (markT (m' + 1))) (.int .i64 (m' + 1 + 1)) (.int .i64 (m' + 1 + 1 + 1)) (.int .i64 (m' + 1 + 1 + 1 + 1))
        have hg5 := grown_set (i := k * 6 + 4) (v := .int .i64 (m' + 1 + 1 + 1 + 1)) (grown_set (i := k * 6 + 3) (v := .int .i64 (m' + 1 + 1 + 1)) (grown_set (i := k * 6 + 2) (v := .int .i64 (m' + 1 + 1)) (grown_set (i := k * 6 + 1) (v := .string (markT (m' + 1))) (grown_set (i := k * 6) (v := .int .i64 m') (grown_refl wr (some g))))))
        have hs5 := Sized.of hg5 HC.out h5 (size_put _ _ _)
        have hk5 := HK.out.1.grown hg5 (fun k hk => by injection hk with hk; subst hk; exact HBB.out)
        have H5 := hid h5
        have HS5 := hid (HK.out.2.trans hs5)
        have HK5 := hid hk5
        clear h5 hg5 hs5 hk5
        refine (l_markPhaseS lo hi _ _ _ _ _ (((HP.out L[k] (List.getElem_mem hlt)).sized HS5.out).grew (by (repeat (first | with_reducible exact grew_refl _ | with_reducible assumption | with_reducible refine grew_split ?_ | with_reducible refine grew_mk ?_ | with_reducible refine grew_plus ?_ | with_reducible refine grew_alloc ?_ | with_reducible refine grew_drew ?_ | (with_reducible refine grew_set ?_ (by first | exact Nat.le_refl _ | omega | (simp [go_sem]; done) | (simp [go_sem]; omega))))))) (by omega) (by omega) (by omega)).mono ?_
        rintro e w' ⟨rfl, ⟨row, hg, hrow⟩, hsz⟩
        have HB' := hid ((H5.out.plus gx).grown hg (fun e => by
          have h := hrow g e.symm
          exact HN.out L[k] (List.getElem_mem hlt) h.1.2 g rfl h.1.1))
        have HK' := hid (And.intro ((HK5.out.grew ⟨gx, rfl⟩).grown hg (fun k hk => (hrow k hk).2)) ((HS5.out.grew ⟨gx, rfl⟩).trans hsz))
        clear hg hrow hsz hz0 hz1 hz2 hz3 hz4 hf0 hf1 hf2 hf3 hf4 hf5 hz5' hgl
        have HQ2 : Hid (m' + 1 + 1 + 1 + 1 + 1 + 2 * (L[k].core.ph.length : Int) ≤ m + 5 * ((k + 1 : Nat) : Int) + 2 * phTo L (k + 1)) := hid (by
          have h := HQ.out
          rw [phTo_succ hlt]
          omega)
        have hq2 : m' + 1 + 1 + 1 + 1 + 1 + 2 * (L[k].core.ph.length : Int) ≤ 10000000 := by
          have h1 := HQ2.out
          have h2 := phTo_mono L (show k + 1 ≤ L.length by omega)
          have h3 := HZ.out
          omega
        go_wp2_with fail
        go_roundw
        case rel =>
          exact ⟨k + 1, _, _, by omega, by go_num, rfl, by omega, HQ2, hq2, HB'.out, hid ((size_put _ _ _).trans HSZ.out), hid (fun i hi hki => (put_beyond _ _ _ _ (by simp; omega)).trans (HCS.out i hi (by omega))), HK'⟩
        case measure => simp [intOf]; omega
      · obtain rfl : k = L.length := by omega
        clear hB
        go_wp2
        go_ret
        exact ⟨⟨_, rfl, q0⟩, HK.out.1⟩
end Go.Proofs.Ytjlaidjogladaaa
