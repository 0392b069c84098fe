/- When all lights of a list are dark, in both packages. -/
import Derived.Test.YtjlaidjogladaaaLi3
import Derived.Test.YtjlaidjogladaaaLi6
namespace Go.Proofs.Ytjlaidjogladaaa
open Go.RowKit

/-- None of the first k lights is lit. -/
def noLit (L : List LightV) (m : Int) (k : Nat) : Bool := allUpto (fun i => if h : i < L.length then !litF L[i].core.ph m else true) k
theorem noLit_step {L : List LightV} {m : Int} {k : Nat} (hk : k < L.length) (h0 : noLit L m k = true) (h : litF L[k].core.ph m = false) : noLit L m (k + 1) = true :=
  allUpto_step h0 (by simp [hk, h])
theorem noLit_hit {L : List LightV} {m : Int} {k n : Nat} (hk : k < L.length) (hn : k < n) (h : litF L[k].core.ph m = true) : noLit L m n = false :=
  allUpto_no hn (by simp [hk, h])
theorem Alike.noLit {L M : List LightV} (h : Alike L M) (m : Int) (k : Nat) : noLit L m k = Go.Proofs.Ytjlaidjogladaaa.noLit M m k := by
  refine allUpto_congr fun i _ => ?_
  by_cases hi : i < L.length
  · have hi' : i < M.length := by have := h.1; omega
    simp only [hi, hi', ↓reduceDIte, h.2 i hi hi']
  · have hi' : ¬ i < M.length := by have := h.1; omega
    simp only [hi, hi', ↓reduceDIte]
theorem lights_ok {L : List LightV} (h : lightsB L = true) {k : Nat} (hk : k < L.length) : L[k].core.ok = true := by
  simp only [lightsB, Bool.and_eq_true] at h
  have := allUpto_iff.1 h.1 k hk
  simp only [ltStep, hk, ↓reduceDIte, Bool.and_eq_true] at this
  exact this.1.1
theorem lights_len {L : List LightV} (h : lightsB L = true) : L.length ≤ 10 := by
  simp only [lightsB, Bool.and_eq_true, decide_eq_true_eq] at h
  exact h.2
def findDark (L : List LightV) : Nat → Int → Int × Bool
  | 0, _ => (0, false)
  | n + 1, m => if inB m 0 1000000 then (if noLit L m L.length then (m, true) else findDark L n (m + 1)) else (0, false)
def darkF (L : List LightV) (fr : Int) : Int × Bool := if lightsB L && inB fr 0 1000000 then findDark L 2000 fr else (0, false)
theorem Alike.find {L M : List LightV} (h : Alike L M) : ∀ n m, findDark L n m = findDark M n m := by
  intro n
  induction n with
  | zero => intro m; rfl
  | succ n ih => intro m; simp only [findDark, h.noLit, h.1, ih]
theorem Alike.dark {L M : List LightV} (h : Alike L M) (fr : Int) : darkF L fr = darkF M fr := by
  simp only [darkF, h.good, h.find]
set_option maxHeartbeats 400000 in
theorem i_AllDarkAt1 (u : LightV) (m : Int) (b : Nat) (w : World) (hb : b < w.heap.size) (hc : w.cell? ⟨b, 0, none⟩ = some (.int .i64 m)) (hok : u.core.ok = true) (h0 : 0 ≤ m) (h1 : m ≤ 1000000) (hu : u.At w) :
    Calls Try.prog 58 #[u.val, .pointer (some ⟨b, 0, none⟩)] w fun e' w' => e' = .returned (.bool (litF u.core.ph m)) ∧ ∃ g, w' = plus w g := by
  have HU := hid hu
  clear hu
  go_enter Try.func58, Try.ntmps58
  go_wp2_with fail
  refine (i_isLit u (LightC.phok hok) m h0 (by omega) _ (HU.out.grew (by (repeat (first | with_reducible exact grew_refl _ | with_reducible assumption | with_reducible refine grew_split ?_ | with_reducible refine grew_mk ?_ | with_reducible refine grew_plus ?_ | with_reducible refine grew_alloc ?_ | with_reducible refine grew_drew ?_ | (with_reducible refine grew_set ?_ (by first | exact Nat.le_refl _ | omega | (simp [go_sem]; done) | (simp [go_sem]; omega)))))))).mono ?_
  (rintro e w' ⟨rfl, gx, rfl⟩)
  go_wp2_with fail
  go_ret
  exact ⟨rfl, by (repeat (first | with_reducible exact grew_refl _ | with_reducible assumption | with_reducible refine grew_split ?_ | with_reducible refine grew_mk ?_ | with_reducible refine grew_plus ?_ | with_reducible refine grew_alloc ?_ | with_reducible refine grew_drew ?_ | (with_reducible refine grew_set ?_ (by first | exact Nat.le_refl _ | omega | (simp [go_sem]; done) | (simp [go_sem]; omega)))))⟩
set_option maxHeartbeats 1000000 in
theorem i_IndexDark (L : List LightV) (A : Option Addr) (c : Nat) (m : Int) (b : Nat) (w : World) (hA : Lts w A L) (hg_ : lightsB L = true) (h0 : 0 ≤ m) (h1 : m ≤ 1000000) (hb : b < w.heap.size) (hc : w.cell? ⟨b, 0, none⟩ = some (.int .i64 m)) :
    Calls Try.prog 77 #[.slice A L.length c, .func (.func 58) #[] #[.pointer (some ⟨b, 0, none⟩)]] w fun e' w' => (∃ r : Int, e' = .returned (.int .i64 r) ∧ decide (0 ≤ r) = !noLit L m L.length) ∧ ∃ g, w' = plus w g := by
  have hl := lights_len hg_
  have HAT := hid hA.at_
  have HS := hid hA.sl
  have HOK := hid hg_
  clear hg_ hA
  go_enter Try.func77, Try.ntmps77
  go_wp2_with fail
  go_loopw [8, 5] (fun i _ wr => ∃ k : Nat, k ≤ L.length ∧ i = .int .i64 k ∧ noLit L m k = true ∧ (∃ g, wr = plus w g)) (fun i _ _ => L.length - (intOf i).toNat)
  case atStart => exact ⟨0, Nat.zero_le _, rfl, rfl, _, plus_refl _⟩
  case round =>
    obtain ⟨k, hk, rfl, h0', g, rfl⟩ := hrel
    have H0 := hid h0'
    clear h0'
    by_cases hlt : k < L.length
    · obtain ⟨b', off, rfl, hb', hcl⟩ := HS.out.at_ hlt
      obtain ⟨hc0, hc1, hc2, hc3, hc4, hc5⟩ := lt6 hcl hlt
      have HT := hid (HAT.out L[k] (List.getElem_mem hlt))
      have HK := hid (lights_ok HOK.out hlt)
      clear hcl
      cases ho : litF L[k].core.ph m
      · have HO := hid ho
        go_wp2_with (go_at_call 58; refine (i_AllDarkAt1 L[k] m b _ (by simp [go_sem]; omega) (by simp [go_sem, hb, hc]) HK.out h0 h1 (HT.out.grew (by (repeat (first | with_reducible exact grew_refl _ | with_reducible assumption | with_reducible refine grew_split ?_ | with_reducible refine grew_mk ?_ | with_reducible refine grew_plus ?_ | with_reducible refine grew_alloc ?_ | with_reducible refine grew_drew ?_ | (with_reducible refine grew_set ?_ (by first | exact Nat.le_refl _ | omega | (simp [go_sem]; done) | (simp [go_sem]; omega)))))))).mono ?_; (rintro e w' ⟨rfl, gx, rfl⟩))
        go_roundw
        case rel => exact ⟨k + 1, by omega, by go_num, noLit_step hlt H0.out HO.out, by (repeat (first | with_reducible exact grew_refl _ | with_reducible assumption | with_reducible refine grew_split ?_ | with_reducible refine grew_mk ?_ | with_reducible refine grew_plus ?_ | with_reducible refine grew_alloc ?_ | with_reducible refine grew_drew ?_ | (with_reducible refine grew_set ?_ (by first | exact Nat.le_refl _ | omega | (simp [go_sem]; done) | (simp [go_sem]; omega)))))⟩
        case measure => simp [intOf]; omega
      · have HO := hid ho
        go_wp2_with (go_at_call 58; refine (i_AllDarkAt1 L[k] m b _ (by simp [go_sem]; omega) (by simp [go_sem, hb, hc]) HK.out h0 h1 (HT.out.grew (by (repeat (first | with_reducible exact grew_refl _ | with_reducible assumption | with_reducible refine grew_split ?_ | with_reducible refine grew_mk ?_ | with_reducible refine grew_plus ?_ | with_reducible refine grew_alloc ?_ | with_reducible refine grew_drew ?_ | (with_reducible refine grew_set ?_ (by first | exact Nat.le_refl _ | omega | (simp [go_sem]; done) | (simp [go_sem]; omega)))))))).mono ?_; (rintro e w' ⟨rfl, gx, rfl⟩))
        go_ret
        exact ⟨⟨_, rfl, by rw [noLit_hit hlt hlt HO.out]; simp⟩, by (repeat (first | with_reducible exact grew_refl _ | with_reducible assumption | with_reducible refine grew_split ?_ | with_reducible refine grew_mk ?_ | with_reducible refine grew_plus ?_ | with_reducible refine grew_alloc ?_ | with_reducible refine grew_drew ?_ | (with_reducible refine grew_set ?_ (by first | exact Nat.le_refl _ | omega | (simp [go_sem]; done) | (simp [go_sem]; omega)))))⟩
    · obtain rfl : k = L.length := by omega
      go_wp2
      go_ret
      exact ⟨⟨_, rfl, by rw [H0.out]; rfl⟩, by (repeat (first | with_reducible exact grew_refl _ | with_reducible assumption | with_reducible refine grew_split ?_ | with_reducible refine grew_mk ?_ | with_reducible refine grew_plus ?_ | with_reducible refine grew_alloc ?_ | with_reducible refine grew_drew ?_ | (with_reducible refine grew_set ?_ (by first | exact Nat.le_refl _ | omega | (simp [go_sem]; done) | (simp [go_sem]; omega)))))⟩
set_option maxHeartbeats 1000000 in
theorem i_ContainsDark (L : List LightV) (A : Option Addr) (c : Nat) (m : Int) (b : Nat) (o : Bool) (ho : noLit L m L.length = o) (w : World) (hA : Lts w A L) (hg_ : lightsB L = true) (h0 : 0 ≤ m) (h1 : m ≤ 1000000) (hb : b < w.heap.size) (hc : w.cell? ⟨b, 0, none⟩ = some (.int .i64 m)) :
    Calls Try.prog 57 #[.slice A L.length c, .func (.func 58) #[] #[.pointer (some ⟨b, 0, none⟩)]] w fun e' w' => e' = .returned (.bool (!o)) ∧ ∃ g, w' = plus w g := by
  go_enter Try.func57, Try.ntmps57
  go_wp2_with fail
  refine (i_IndexDark L A c m b _ hA hg_ h0 h1 hb hc).mono ?_
  rintro e w' ⟨⟨r, rfl, hr⟩, gx, rfl⟩
  have HR := hid hr
  clear hr
  go_wp2_with fail
  go_ret
  exact ⟨ret_bool (by rw [← ho, ← HR.out]), by (repeat (first | with_reducible exact grew_refl _ | with_reducible assumption | with_reducible refine grew_split ?_ | with_reducible refine grew_mk ?_ | with_reducible refine grew_plus ?_ | with_reducible refine grew_alloc ?_ | with_reducible refine grew_drew ?_ | (with_reducible refine grew_set ?_ (by first | exact Nat.le_refl _ | omega | (simp [go_sem]; done) | (simp [go_sem]; omega)))))⟩
theorem inM {m : Int} (h : inB m 0 1000000 = true) : 0 ≤ m ∧ m ≤ 1000000 := by simpa [inB] using h
set_option maxHeartbeats 4000000 in
theorem s_AllDarkAt (L : List LightV) (A : Option Addr) (c : Nat) (fr : Int) (w : World) (hA : Lts w A L) (hl : L.length ≤ maxLen) :
    Calls Try.prog 24 #[.slice A L.length c, .int .i64 fr] w fun e' w' => e' = .returned (.tuple #[.int .i64 (darkF L fr).1, .bool (darkF L fr).2]) ∧ ∃ g, w' = plus w g := by
  have HV := hid hA
  clear hA
  cases hg_ : lightsB L
  · have HF := hid (show darkF L fr = (0, false) by simp [darkF, hg_])
    go_enter Try.func24, Try.ntmps24
    go_wp2_with (first | (go_at_call 31; refine (s_l24Good L A c _ hg_ _ HV.out.sl HV.out.at_ hl).mono ?_; (rintro e w' ⟨rfl, gx, rfl⟩)) | (go_at_call 53; refine (s_l24Moment _ _ rfl _).mono ?_; (rintro e w' ⟨rfl, rfl⟩)))
    all_goals
      go_ret2
      exact ⟨ret_ib (by rw [HF.out]) (by rw [HF.out]), by (repeat (first | with_reducible exact grew_refl _ | with_reducible assumption | with_reducible refine grew_split ?_ | with_reducible refine grew_mk ?_ | with_reducible refine grew_plus ?_ | with_reducible refine grew_alloc ?_ | with_reducible refine grew_drew ?_ | (with_reducible refine grew_set ?_ (by first | exact Nat.le_refl _ | omega | (simp [go_sem]; done) | (simp [go_sem]; omega)))))⟩
  · cases hm : inB fr 0 1000000
    · have HF := hid (show darkF L fr = (0, false) by simp [darkF, hm])
      have HM := hid hm
      go_enter Try.func24, Try.ntmps24
      go_wp2_with (first | (go_at_call 31; refine (s_l24Good L A c _ hg_ _ HV.out.sl HV.out.at_ hl).mono ?_; (rintro e w' ⟨rfl, gx, rfl⟩)) | (go_at_call 53; refine (s_l24Moment _ _ HM.out _).mono ?_; (rintro e w' ⟨rfl, rfl⟩)))
      all_goals
        go_ret2
        exact ⟨ret_ib (by rw [HF.out]) (by rw [HF.out]), by (repeat (first | with_reducible exact grew_refl _ | with_reducible assumption | with_reducible refine grew_split ?_ | with_reducible refine grew_mk ?_ | with_reducible refine grew_plus ?_ | with_reducible refine grew_alloc ?_ | with_reducible refine grew_drew ?_ | (with_reducible refine grew_set ?_ (by first | exact Nat.le_refl _ | omega | (simp [go_sem]; done) | (simp [go_sem]; omega)))))⟩
    · obtain ⟨m0, m1⟩ := inM hm
      have HF := hid (show darkF L fr = findDark L 2000 fr by simp [darkF, hm, hg_])
      have HM := hid hm
      have HK := hid hg_
      have hl10 := lights_len hg_
      clear hm
      go_enter Try.func24, Try.ntmps24
      go_wp2_with (first | (go_at_call 31; refine (s_l24Good L A c _ hg_ _ HV.out.sl HV.out.at_ hl).mono ?_; (rintro e w' ⟨rfl, gx, rfl⟩)) | (go_at_call 53; refine (s_l24Moment _ _ HM.out _).mono ?_; (rintro e w' ⟨rfl, rfl⟩)))
      clear hg_
      go_loopw [6, 7, 8] (fun q _ _ wr => ∃ k : Nat, k ≤ 2000 ∧ q = .int .i64 (fr + k) ∧ findDark L (2000 - k) (fr + k) = findDark L 2000 fr ∧ (∃ g, wr = plus w g)) (fun q _ _ _ => 3000 - ((intOf q) - fr).toNat)
      case atStart => exact ⟨0, by omega, by simp, by simp, by (repeat (first | with_reducible exact grew_refl _ | with_reducible assumption | with_reducible refine grew_split ?_ | with_reducible refine grew_mk ?_ | with_reducible refine grew_plus ?_ | with_reducible refine grew_alloc ?_ | with_reducible refine grew_drew ?_ | (with_reducible refine grew_set ?_ (by first | exact Nat.le_refl _ | omega | (simp [go_sem]; done) | (simp [go_sem]; omega)))))⟩
      case round =>
        obtain ⟨k, hk, rfl, hf, g, rfl⟩ := hrel
        have HFD := hid hf
        clear hf
        by_cases hlt : k < 2000
        · have HLT := hid hlt
          have hki : (k : Int) < 2000 := by omega
          clear hlt hk
          cases hm2 : inB (fr + k) 0 1000000
          · have HR := hid (show findDark L (2000 - k) (fr + k) = (0, false) by have hlt := HLT.out; rw [show 2000 - k = (2000 - k - 1) + 1 by omega]; simp [findDark, hm2])
            go_wp2_with (go_at_call 53; refine (s_l24Moment _ _ hm2 _).mono ?_; (rintro e w' ⟨rfl, rfl⟩))
            go_ret2
            exact ⟨ret_ib (by rw [HF.out, ← HFD.out, HR.out]) (by rw [HF.out, ← HFD.out, HR.out]), by (repeat (first | with_reducible exact grew_refl _ | with_reducible assumption | with_reducible refine grew_split ?_ | with_reducible refine grew_mk ?_ | with_reducible refine grew_plus ?_ | with_reducible refine grew_alloc ?_ | with_reducible refine grew_drew ?_ | (with_reducible refine grew_set ?_ (by first | exact Nat.le_refl _ | omega | (simp [go_sem]; done) | (simp [go_sem]; omega)))))⟩
          · have HM2 := hid hm2
            obtain ⟨q0, q1⟩ := inM hm2
            go_wp2_with (go_at_call 53; refine (s_l24Moment _ _ HM2.out _).mono ?_; (rintro e w' ⟨rfl, rfl⟩))
            clear hm2
            go_loopw [7, 8] (fun a i wr => ∃ j : Nat, j ≤ L.length ∧ i = .int .i64 j ∧ a = .bool (!noLit L (fr + k) j) ∧ (∃ g', wr = plus w g')) (fun _ i _ => L.length - (intOf i).toNat)
            case atStart => exact ⟨0, by omega, rfl, rfl, by (repeat (first | with_reducible exact grew_refl _ | with_reducible assumption | with_reducible refine grew_split ?_ | with_reducible refine grew_mk ?_ | with_reducible refine grew_plus ?_ | with_reducible refine grew_alloc ?_ | with_reducible refine grew_drew ?_ | (with_reducible refine grew_set ?_ (by first | exact Nat.le_refl _ | omega | (simp [go_sem]; done) | (simp [go_sem]; omega)))))⟩
            case round =>
              obtain ⟨j, hj, rfl, rfl, g', rfl⟩ := hrel
              by_cases hltj : j < L.length
              · obtain ⟨b, off, rfl, hb, hc⟩ := HV.out.sl.at_ hltj
                obtain ⟨hc0, hc1, hc2, hc3, hc4, hc5⟩ := lt6 hc hltj
                have HT := hid (HV.out.at_ L[j] (List.getElem_mem hltj))
                have HP := hid (LightC.phok (lights_ok HK.out hltj))
                have HC := hid (HK.out)
                clear hc
                cases hn : noLit L (fr + k) j
                · have HN := hid (show noLit L (fr + k) (j + 1) = false by
                    rw [noLit, allUpto_succ]; rw [noLit] at hn; rw [hn]; rfl)
                  go_wp2_with fail
                  go_roundw
                  case rel => exact ⟨j + 1, by omega, by go_num, by rw [HN.out]; rfl, by (repeat (first | with_reducible exact grew_refl _ | with_reducible assumption | with_reducible refine grew_split ?_ | with_reducible refine grew_mk ?_ | with_reducible refine grew_plus ?_ | with_reducible refine grew_alloc ?_ | with_reducible refine grew_drew ?_ | (with_reducible refine grew_set ?_ (by first | exact Nat.le_refl _ | omega | (simp [go_sem]; done) | (simp [go_sem]; omega)))))⟩
                  case measure => simp [intOf]; omega
                · have HN := hid (show noLit L (fr + k) (j + 1) = !litF L[j].core.ph (fr + k) by
                    rw [noLit, allUpto_succ]; rw [noLit] at hn; rw [hn]; simp [hltj])
                  go_wp2_with (go_at_call 55; refine (s_l24Lit L[j] HP.out (fr + k) (by omega) (by omega) _ (HT.out.grew (by (repeat (first | with_reducible exact grew_refl _ | with_reducible assumption | with_reducible refine grew_split ?_ | with_reducible refine grew_mk ?_ | with_reducible refine grew_plus ?_ | with_reducible refine grew_alloc ?_ | with_reducible refine grew_drew ?_ | (with_reducible refine grew_set ?_ (by first | exact Nat.le_refl _ | omega | (simp [go_sem]; done) | (simp [go_sem]; omega)))))))).mono ?_; (rintro e w' ⟨rfl, gx, rfl⟩))
                  go_roundw
                  case rel => exact ⟨j + 1, by omega, by go_num, by rw [HN.out, Bool.not_not], by (repeat (first | with_reducible exact grew_refl _ | with_reducible assumption | with_reducible refine grew_split ?_ | with_reducible refine grew_mk ?_ | with_reducible refine grew_plus ?_ | with_reducible refine grew_alloc ?_ | with_reducible refine grew_drew ?_ | (with_reducible refine grew_set ?_ (by first | exact Nat.le_refl _ | omega | (simp [go_sem]; done) | (simp [go_sem]; omega)))))⟩
                  case measure => simp [intOf]; omega
              · obtain rfl : j = L.length := by omega
                cases hn : noLit L (fr + k) L.length
                · have HR := hid (show findDark L (2000 - k) (fr + k) = findDark L (2000 - (k + 1)) (fr + (k + 1 : Nat)) by
                    have hlt := HLT.out
                    rw [show 2000 - k = (2000 - (k + 1)) + 1 by omega]; simp [findDark, HM2.out, hn, Int.add_assoc])
                  go_wp2_with fail
                  go_roundw
                  case rel => exact ⟨k + 1, by have := HLT.out; omega, by go_num, by rw [← HR.out]; exact HFD.out, by (repeat (first | with_reducible exact grew_refl _ | with_reducible assumption | with_reducible refine grew_split ?_ | with_reducible refine grew_mk ?_ | with_reducible refine grew_plus ?_ | with_reducible refine grew_alloc ?_ | with_reducible refine grew_drew ?_ | (with_reducible refine grew_set ?_ (by first | exact Nat.le_refl _ | omega | (simp [go_sem]; done) | (simp [go_sem]; omega)))))⟩
                  case measure => simp [intOf]; omega
                · have HR := hid (show findDark L (2000 - k) (fr + k) = (fr + k, true) by have hlt := HLT.out; rw [show 2000 - k = (2000 - k - 1) + 1 by omega]; simp [findDark, HM2.out, hn])
                  go_wp2_with fail
                  go_ret2
                  exact ⟨ret_ib (by rw [HF.out, ← HFD.out, HR.out]) (by rw [HF.out, ← HFD.out, HR.out]), by (repeat (first | with_reducible exact grew_refl _ | with_reducible assumption | with_reducible refine grew_split ?_ | with_reducible refine grew_mk ?_ | with_reducible refine grew_plus ?_ | with_reducible refine grew_alloc ?_ | with_reducible refine grew_drew ?_ | (with_reducible refine grew_set ?_ (by first | exact Nat.le_refl _ | omega | (simp [go_sem]; done) | (simp [go_sem]; omega)))))⟩
        · obtain rfl : k = 2000 := by omega
          have HR := hid (show findDark L (2000 - 2000) (fr + (2000 : Nat)) = (0, false) by rfl)
          go_wp2_with fail
          go_ret2
          exact ⟨ret_ib (by rw [HF.out, ← HFD.out, HR.out]) (by rw [HF.out, ← HFD.out, HR.out]), by (repeat (first | with_reducible exact grew_refl _ | with_reducible assumption | with_reducible refine grew_split ?_ | with_reducible refine grew_mk ?_ | with_reducible refine grew_plus ?_ | with_reducible refine grew_alloc ?_ | with_reducible refine grew_drew ?_ | (with_reducible refine grew_set ?_ (by first | exact Nat.le_refl _ | omega | (simp [go_sem]; done) | (simp [go_sem]; omega)))))⟩
/-- The number in the box that a slot points to. -/
def inBox (q : Value) (w : World) : Int := match q with
  | .pointer (some a) => (match w.cell? a with | some (.int _ n) => n | _ => 0)
  | _ => 0
set_option maxHeartbeats 4000000 in
theorem i_AllDarkAt (L : List LightV) (A : Option Addr) (c : Nat) (fr : Int) (w : World) (hA : Lts w A L) (hl : L.length ≤ maxLen) (hcap : L.length ≤ c) :
    Calls Try.prog 23 #[.slice A L.length c, .int .i64 fr] w fun e w' => e = .returned (.tuple #[.int .i64 (darkF L fr).1, .bool (darkF L fr).2]) ∧ ∃ g, w' = plus w g := by
  have HV := hid hA
  clear hA
  cases hg_ : lightsB L
  · have HF := hid (show darkF L fr = (0, false) by simp [darkF, hg_])
    go_enter Try.func23, Try.ntmps23
    go_wp2_with (first | (go_at_call 27; refine (i_AreLts L A c _ hg_ _ HV.out hl hcap).mono ?_; (rintro e w' ⟨rfl, gx, rfl⟩)) | (go_at_call 47; refine (i_isMoment _ _ rfl _).mono ?_; (rintro e w' ⟨rfl, rfl⟩)))
    all_goals
      go_ret2
      exact ⟨ret_ib (by rw [HF.out]) (by rw [HF.out]), by (repeat (first | with_reducible exact grew_refl _ | with_reducible assumption | with_reducible refine grew_split ?_ | with_reducible refine grew_mk ?_ | with_reducible refine grew_plus ?_ | with_reducible refine grew_alloc ?_ | with_reducible refine grew_drew ?_ | (with_reducible refine grew_set ?_ (by first | exact Nat.le_refl _ | omega | (simp [go_sem]; done) | (simp [go_sem]; omega)))))⟩
  · cases hm : inB fr 0 1000000
    · have HF := hid (show darkF L fr = (0, false) by simp [darkF, hm])
      have HM := hid hm
      go_enter Try.func23, Try.ntmps23
      go_wp2_with (first | (go_at_call 27; refine (i_AreLts L A c _ hg_ _ HV.out hl hcap).mono ?_; (rintro e w' ⟨rfl, gx, rfl⟩)) | (go_at_call 47; refine (i_isMoment _ _ HM.out _).mono ?_; (rintro e w' ⟨rfl, rfl⟩)))
      all_goals
        go_ret2
        exact ⟨ret_ib (by rw [HF.out]) (by rw [HF.out]), by (repeat (first | with_reducible exact grew_refl _ | with_reducible assumption | with_reducible refine grew_split ?_ | with_reducible refine grew_mk ?_ | with_reducible refine grew_plus ?_ | with_reducible refine grew_alloc ?_ | with_reducible refine grew_drew ?_ | (with_reducible refine grew_set ?_ (by first | exact Nat.le_refl _ | omega | (simp [go_sem]; done) | (simp [go_sem]; omega)))))⟩
    · obtain ⟨m0, m1⟩ := inM hm
      have HF := hid (show darkF L fr = findDark L 2000 fr by simp [darkF, hm, hg_])
      have HM := hid hm
      have HK := hid hg_
      clear hm
      go_enter Try.func23, Try.ntmps23
      go_wp2_with (first | (go_at_call 27; refine (i_AreLts L A c _ hg_ _ HV.out hl hcap).mono ?_; (rintro e w' ⟨rfl, gx, rfl⟩)) | (go_at_call 47; refine (i_isMoment _ _ HM.out _).mono ?_; (rintro e w' ⟨rfl, rfl⟩)))
      clear hg_
      go_loopw [6] (fun q wr => ∃ (k b : Nat), (k : Int) ≤ 2000 ∧ q = .pointer (some ⟨b, 0, none⟩) ∧ w.heap.size ≤ b ∧ Blk wr b 3 #[.int .i64 (fr + k)] ∧ findDark L (2000 - k) (fr + k) = findDark L 2000 fr ∧ (∃ g, wr = plus w g)) (fun q wr => 3000 - ((inBox q wr) - fr).toNat)
      case atStart => exact ⟨0, _, by omega, rfl, by simp [go_sem]; try omega, by simp only [Int.natCast_zero, Int.add_zero]; exact blk_new (by simp [go_sem]), by simp, by (repeat (first | with_reducible exact grew_refl _ | with_reducible assumption | with_reducible refine grew_split ?_ | with_reducible refine grew_mk ?_ | with_reducible refine grew_plus ?_ | with_reducible refine grew_alloc ?_ | with_reducible refine grew_drew ?_ | (with_reducible refine grew_set ?_ (by first | exact Nat.le_refl _ | omega | (simp [go_sem]; done) | (simp [go_sem]; omega)))))⟩
      case round =>
        obtain ⟨k, b, hki, rfl, hbw, hB, hf, hg⟩ := hrel
        have HFD := hid hf
        have HB := hid hB
        have HG := hid hg
        have hz := hB.cell 0
        have hfz := hB.frozen 0
        have hblt := hB.lt
        simp at hz
        clear hf hB hg
        by_cases hlt : (k : Int) < 2000
        · cases hm2 : inB (fr + k) 0 1000000
          · have HR := hid (show findDark L (2000 - k) (fr + k) = (0, false) by rw [show 2000 - k = (2000 - k - 1) + 1 by omega]; simp [findDark, hm2])
            go_wp2_with (go_at_call 47; refine (i_isMoment _ _ hm2 _).mono ?_; (rintro e w' ⟨rfl, rfl⟩))
            go_ret2
            exact ⟨ret_ib (by rw [HF.out, ← HFD.out, HR.out]) (by rw [HF.out, ← HFD.out, HR.out]), HG.out⟩
          · have HM2 := hid hm2
            obtain ⟨q0, q1⟩ := inM hm2
            clear hm2
            cases hn : noLit L (fr + k) L.length
            · have HR := hid (show findDark L (2000 - k) (fr + k) = findDark L (2000 - (k + 1)) (fr + (k + 1 : Nat)) by
                rw [show 2000 - k = (2000 - (k + 1)) + 1 by omega]; simp [findDark, HM2.out, hn, Int.add_assoc])
              go_wp2_with (first | (go_at_call 47; refine (i_isMoment _ _ HM2.out _).mono ?_; (rintro e w' ⟨rfl, rfl⟩)) | (go_at_call 57; refine (i_ContainsDark L A c (fr + k) b _ hn _ (HV.out.grew (by have := HG.out; (repeat (first | with_reducible exact grew_refl _ | with_reducible assumption | with_reducible refine grew_split ?_ | with_reducible refine grew_mk ?_ | with_reducible refine grew_plus ?_ | with_reducible refine grew_alloc ?_ | with_reducible refine grew_drew ?_ | (with_reducible refine grew_set ?_ (by first | exact Nat.le_refl _ | omega | (simp [go_sem]; done) | (simp [go_sem]; omega))))))) HK.out q0 q1 hblt hz).mono ?_; (rintro e w' ⟨rfl, gx, rfl⟩)))
              go_roundw
              case rel =>
                have HG := HG.out
                exact ⟨k + 1, _, by omega, rfl, by omega, by rw [show fr + ((k + 1 : Nat) : Int) = fr + k + 1 by omega]; exact blk_new (by simp [go_sem]), by rw [← HR.out]; exact HFD.out, by (repeat (first | with_reducible exact grew_refl _ | with_reducible assumption | with_reducible refine grew_split ?_ | with_reducible refine grew_mk ?_ | with_reducible refine grew_plus ?_ | with_reducible refine grew_alloc ?_ | with_reducible refine grew_drew ?_ | (with_reducible refine grew_set ?_ (by first | exact Nat.le_refl _ | omega | (simp [go_sem]; done) | (simp [go_sem]; omega)))))⟩
              case measure => simp [inBox, go_sem, hz]; omega
            · have HR := hid (show findDark L (2000 - k) (fr + k) = (fr + k, true) by rw [show 2000 - k = (2000 - k - 1) + 1 by omega]; simp [findDark, HM2.out, hn])
              go_wp2_with (first | (go_at_call 47; refine (i_isMoment _ _ HM2.out _).mono ?_; (rintro e w' ⟨rfl, rfl⟩)) | (go_at_call 57; refine (i_ContainsDark L A c (fr + k) b _ hn _ (HV.out.grew (by have := HG.out; (repeat (first | with_reducible exact grew_refl _ | with_reducible assumption | with_reducible refine grew_split ?_ | with_reducible refine grew_mk ?_ | with_reducible refine grew_plus ?_ | with_reducible refine grew_alloc ?_ | with_reducible refine grew_drew ?_ | (with_reducible refine grew_set ?_ (by first | exact Nat.le_refl _ | omega | (simp [go_sem]; done) | (simp [go_sem]; omega))))))) HK.out q0 q1 hblt hz).mono ?_; (rintro e w' ⟨rfl, gx, rfl⟩)))
              go_ret2
              have HG := HG.out
              exact ⟨ret_ib (by rw [HF.out, ← HFD.out, HR.out]) (by rw [HF.out, ← HFD.out, HR.out]), by (repeat (first | with_reducible exact grew_refl _ | with_reducible assumption | with_reducible refine grew_split ?_ | with_reducible refine grew_mk ?_ | with_reducible refine grew_plus ?_ | with_reducible refine grew_alloc ?_ | with_reducible refine grew_drew ?_ | (with_reducible refine grew_set ?_ (by first | exact Nat.le_refl _ | omega | (simp [go_sem]; done) | (simp [go_sem]; omega)))))⟩
        · obtain rfl : k = 2000 := by omega
          have HR := hid (show findDark L (2000 - 2000) (fr + (2000 : Nat)) = (0, false) by rfl)
          go_wp2_with fail
          go_ret2
          exact ⟨ret_ib (by rw [HF.out, ← HFD.out, HR.out]) (by rw [HF.out, ← HFD.out, HR.out]), HG.out⟩
end Go.Proofs.Ytjlaidjogladaaa
