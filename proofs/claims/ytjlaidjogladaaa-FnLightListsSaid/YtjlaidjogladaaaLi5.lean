/- Which lists of lights are good, in both packages. -/
import Derived.Test.YtjlaidjogladaaaLi4
namespace Go.Proofs.Ytjlaidjogladaaa
open Go.RowKit

def nmIs (s : ByteArray) (u : LightV) : Bool := u.core.nm.toList == s.toList
/-- The first k lights bear other names. -/
def noNm (L : List LightV) (s : ByteArray) (k : Nat) : Bool := allUpto (fun i => if h : i < L.length then !nmIs s L[i] else true) k
theorem noNm_step {L : List LightV} {s : ByteArray} {k : Nat} (hk : k < L.length) (h0 : noNm L s k = true) (h : nmIs s L[k] = false) : noNm L s (k + 1) = true :=
  allUpto_step h0 (by simp [hk, h])
theorem noNm_hit {L : List LightV} {s : ByteArray} {k n : Nat} (hk : k < L.length) (hn : k < n) (h : nmIs s L[k] = true) : noNm L s n = false :=
  allUpto_no hn (by simp [hk, h])
set_option maxHeartbeats 400000 in
theorem i_AreLights1 (u : LightV) (s : ByteArray) (b : Nat) (w : World) (hb : b < w.heap.size) (hc : w.cell? ⟨b, 1, none⟩ = some (.string s)) :
    Calls Try.prog 61 #[u.val, .pointer (some ⟨b, 0, none⟩)] w fun e' w' => e' = .returned (.bool (nmIs s u)) ∧ ∃ g, w' = plus w g := by
  go_enter Try.func61, Try.ntmps61
  go_wp2
  go_ret
  exact ⟨rfl, by (repeat (first | with_reducible exact grew_refl _ | with_reducible assumption | with_reducible refine grew_split ?_ | with_reducible refine grew_mk ?_ | with_reducible refine grew_plus ?_ | with_reducible refine grew_alloc ?_ | with_reducible refine grew_drew ?_ | (with_reducible refine grew_set ?_ (by first | exact Nat.le_refl _ | omega | (simp [go_sem]; done) | (simp [go_sem]; omega)))))⟩
set_option maxHeartbeats 1000000 in
theorem i_IndexFunc (L : List LightV) (n : Nat) (A : Option Addr) (c : Nat) (s : ByteArray) (b : Nat) (w : World) (hA : Sl w 6 LightV.row A L) (hn : n ≤ L.length) (hl : L.length ≤ maxLen) (hb : b < w.heap.size) (hc : w.cell? ⟨b, 1, none⟩ = some (.string s)) :
    Calls Try.prog 77 #[.slice A n c, .func (.func 61) #[] #[.pointer (some ⟨b, 0, none⟩)]] w fun e' w' => (∃ r : Int, e' = .returned (.int .i64 r) ∧ decide (0 ≤ r) = !noNm L s n) ∧ ∃ g, w' = plus w g := by
  unfold maxLen at hl
  go_enter Try.func77, Try.ntmps77
  go_wp2_with fail
  go_loopw [8, 5] (fun i _ wr => ∃ k : Nat, k ≤ n ∧ i = .int .i64 k ∧ noNm L s k = true ∧ (∃ g, wr = plus w g)) (fun i _ _ => n - (intOf i).toNat)
  case atStart => exact ⟨0, Nat.zero_le _, rfl, rfl, _, plus_refl _⟩
  case round =>
    obtain ⟨k, hk, rfl, h0, g, rfl⟩ := hrel
    have H0 := hid h0
    clear h0
    by_cases hlt : k < n
    · have hltL : k < L.length := by omega
      obtain ⟨b', off, rfl, hb', hcl⟩ := hA.at_ hltL
      obtain ⟨hc0, hc1, hc2, hc3, hc4, hc5⟩ := lt6 hcl hltL
      clear hcl hA
      cases ho : nmIs s L[k]
      · have HO := hid ho
        go_wp2_with (go_at_call 61; refine (i_AreLights1 L[k] s b _ (by simp [go_sem]; omega) (by simp [go_sem, hb, hc])).mono ?_; (rintro e w' ⟨rfl, gx, rfl⟩))
        go_roundw
        case rel => exact ⟨k + 1, by omega, by go_num, noNm_step hltL H0.out HO.out, by (repeat (first | with_reducible exact grew_refl _ | with_reducible assumption | with_reducible refine grew_split ?_ | with_reducible refine grew_mk ?_ | with_reducible refine grew_plus ?_ | with_reducible refine grew_alloc ?_ | with_reducible refine grew_drew ?_ | (with_reducible refine grew_set ?_ (by first | exact Nat.le_refl _ | omega | (simp [go_sem]; done) | (simp [go_sem]; omega)))))⟩
        case measure => simp [intOf]; omega
      · have HO := hid ho
        go_wp2_with (go_at_call 61; refine (i_AreLights1 L[k] s b _ (by simp [go_sem]; omega) (by simp [go_sem, hb, hc])).mono ?_; (rintro e w' ⟨rfl, gx, rfl⟩))
        go_ret
        exact ⟨⟨_, rfl, by rw [noNm_hit hltL hlt HO.out]; simp⟩, by (repeat (first | with_reducible exact grew_refl _ | with_reducible assumption | with_reducible refine grew_split ?_ | with_reducible refine grew_mk ?_ | with_reducible refine grew_plus ?_ | with_reducible refine grew_alloc ?_ | with_reducible refine grew_drew ?_ | (with_reducible refine grew_set ?_ (by first | exact Nat.le_refl _ | omega | (simp [go_sem]; done) | (simp [go_sem]; omega)))))⟩
    · obtain rfl : k = n := by omega
      go_wp2
      go_ret
      exact ⟨⟨_, rfl, by rw [H0.out]; rfl⟩, by (repeat (first | with_reducible exact grew_refl _ | with_reducible assumption | with_reducible refine grew_split ?_ | with_reducible refine grew_mk ?_ | with_reducible refine grew_plus ?_ | with_reducible refine grew_alloc ?_ | with_reducible refine grew_drew ?_ | (with_reducible refine grew_set ?_ (by first | exact Nat.le_refl _ | omega | (simp [go_sem]; done) | (simp [go_sem]; omega)))))⟩
set_option maxHeartbeats 1000000 in
theorem i_ContainsFunc (L : List LightV) (n : Nat) (A : Option Addr) (c : Nat) (s : ByteArray) (b : Nat) (o : Bool) (ho : noNm L s n = o) (w : World) (hA : Sl w 6 LightV.row A L) (hn : n ≤ L.length) (hl : L.length ≤ maxLen) (hb : b < w.heap.size) (hc : w.cell? ⟨b, 1, none⟩ = some (.string s)) :
    Calls Try.prog 57 #[.slice A n c, .func (.func 61) #[] #[.pointer (some ⟨b, 0, none⟩)]] w fun e' w' => e' = .returned (.bool (!o)) ∧ ∃ g, w' = plus w g := by
  go_enter Try.func57, Try.ntmps57
  go_wp2_with fail
  refine (i_IndexFunc L n A c s b _ hA hn hl hb hc).mono ?_
  rintro e w' ⟨⟨r, rfl, hr⟩, gx, rfl⟩
  have HR := hid hr
  clear hr
  go_wp2_with fail
  go_ret
  exact ⟨ret_bool (by rw [← ho, ← HR.out]), by (repeat (first | with_reducible exact grew_refl _ | with_reducible assumption | with_reducible refine grew_split ?_ | with_reducible refine grew_mk ?_ | with_reducible refine grew_plus ?_ | with_reducible refine grew_alloc ?_ | with_reducible refine grew_drew ?_ | (with_reducible refine grew_set ?_ (by first | exact Nat.le_refl _ | omega | (simp [go_sem]; done) | (simp [go_sem]; omega)))))⟩
/-- What light k adds to a good list. -/
def ltStep (L : List LightV) (k : Nat) : Bool :=
  if h : k < L.length then L[k].core.ok && (if h0 : 0 < k then decide (L[k - 1].core.id < L[k].core.id) else true) && noNm L L[k].core.nm k else true
def lightsB (L : List LightV) : Bool := allUpto (ltStep L) L.length && decide (L.length ≤ 10)
theorem lightsB_no {L : List LightV} {k : Nat} (hk : k < L.length) (h : ltStep L k = false) : lightsB L = false := by
  rw [lightsB, allUpto_no hk h]; rfl
set_option maxHeartbeats 4000000 in
theorem i_AreLights (L : List LightV) (A : Option Addr) (c : Nat) (o : Bool) (ho : lightsB L = o) (w : World) (hA : Sl w 6 LightV.row A L) (hat : ∀ u ∈ L, u.At w) (hl : L.length ≤ maxLen) (hcap : L.length ≤ c) :
    Calls Try.prog 27 #[.slice A L.length c] w fun e' w' => e' = .returned (.bool o) ∧ ∃ g, w' = plus w g := by
  subst ho
  have HL := hid hl
  unfold maxLen at hl
  have HAT := hid hat
  clear hat
  go_enter Try.func27, Try.ntmps27
  go_wp2_with fail
  go_loopw [7, 3, 4] (fun i _ _ wr => ∃ k : Nat, k ≤ L.length ∧ i = .int .i64 k ∧ allUpto (ltStep L) k = true ∧ (∃ g, wr = plus w g)) (fun i _ _ _ => L.length - (intOf i).toNat)
  case atStart => exact ⟨0, Nat.zero_le _, rfl, rfl, _, plus_refl _⟩
  case round =>
    obtain ⟨k, hk, rfl, h0, g, rfl⟩ := hrel
    have H0 := hid h0
    clear h0
    by_cases hlt : k < L.length
    · have HS := hid hA
      obtain ⟨b, off, rfl, hb, hc⟩ := hA.at_ hlt
      obtain ⟨hc0, hc1, hc2, hc3, hc4, hc5⟩ := lt6 hc hlt
      have HT := hid (HAT.out L[k] (List.getElem_mem hlt))
      cases hok : L[k].core.ok
      · have HF := hid (lightsB_no hlt (by simp [ltStep, hlt, hok]))
        clear hc hA
        go_wp2_with fail
        (refine wp_region_calm (by kernel_rfl) (by kernel_rfl) ?_; (repeat' (first | go_big_quiet_step ((go_at_call 60; first | exact calm_of (i_IsLight L[k] _ hok _ (HT.out.grew (by (repeat (first | with_reducible exact grew_refl _ | with_reducible assumption | with_reducible refine grew_split ?_ | with_reducible refine grew_mk ?_ | with_reducible refine grew_plus ?_ | with_reducible refine grew_alloc ?_ | with_reducible refine grew_drew ?_ | (with_reducible refine grew_set ?_ (by first | exact Nat.le_refl _ | omega | (simp [go_sem]; done) | (simp [go_sem]; omega)))))))) | exact calm_add (i_IsLight L[k] _ hok _ (HT.out.grew (by (repeat (first | with_reducible exact grew_refl _ | with_reducible assumption | with_reducible refine grew_split ?_ | with_reducible refine grew_mk ?_ | with_reducible refine grew_plus ?_ | with_reducible refine grew_alloc ?_ | with_reducible refine grew_drew ?_ | (with_reducible refine grew_set ?_ (by first | exact Nat.le_refl _ | omega | (simp [go_sem]; done) | (simp [go_sem]; omega)))))))))) | (refine wpQuiet_step (fun K hK => ?_); go_simp; go_ite <;> go_simp <;> (first | (refine hK _ ?_; clear hK K) | (apply Exists.intro; refine ⟨fun _ => ?_, hK _ ?_⟩; ((go_at_call 60; first | exact calm_of (i_IsLight L[k] _ hok _ (HT.out.grew (by (repeat (first | with_reducible exact grew_refl _ | with_reducible assumption | with_reducible refine grew_split ?_ | with_reducible refine grew_mk ?_ | with_reducible refine grew_plus ?_ | with_reducible refine grew_alloc ?_ | with_reducible refine grew_drew ?_ | (with_reducible refine grew_set ?_ (by first | exact Nat.le_refl _ | omega | (simp [go_sem]; done) | (simp [go_sem]; omega)))))))) | exact calm_add (i_IsLight L[k] _ hok _ (HT.out.grew (by (repeat (first | with_reducible exact grew_refl _ | with_reducible assumption | with_reducible refine grew_split ?_ | with_reducible refine grew_mk ?_ | with_reducible refine grew_plus ?_ | with_reducible refine grew_alloc ?_ | with_reducible refine grew_drew ?_ | (with_reducible refine grew_set ?_ (by first | exact Nat.le_refl _ | omega | (simp [go_sem]; done) | (simp [go_sem]; omega)))))))))); clear hK K))))); all_goals (refine wpQuiet_nil ?_; intro _ hw'; obtain ⟨gq, hw''⟩ := hw'; subst hw''))
        go_wp2
        go_ret
        exact ⟨ret_bool HF.out.symm, by (repeat (first | with_reducible exact grew_refl _ | with_reducible assumption | with_reducible refine grew_split ?_ | with_reducible refine grew_mk ?_ | with_reducible refine grew_plus ?_ | with_reducible refine grew_alloc ?_ | with_reducible refine grew_drew ?_ | (with_reducible refine grew_set ?_ (by first | exact Nat.le_refl _ | omega | (simp [go_sem]; done) | (simp [go_sem]; omega)))))⟩
      · have HK := hid hok
        by_cases hk0 : k = 0
        · subst hk0
          simp only [Nat.zero_mul, Nat.add_zero] at hc0 hc1 hc2 hc3 hc4 hc5
          cases hnm : noNm L L[0].core.nm 0
          · simp [noNm, allUpto] at hnm
          · have HF := hid (allUpto_step H0.out (show ltStep L 0 = true by simp [ltStep, hlt, hok, hnm]))
            clear hc hA
            go_wp2_with fail
            (refine wp_region_calm (by kernel_rfl) (by kernel_rfl) ?_; (repeat' (first | go_big_quiet_step ((go_at_call 60; first | exact calm_of (i_IsLight L[0] _ hok _ (HT.out.grew (by (repeat (first | with_reducible exact grew_refl _ | with_reducible assumption | with_reducible refine grew_split ?_ | with_reducible refine grew_mk ?_ | with_reducible refine grew_plus ?_ | with_reducible refine grew_alloc ?_ | with_reducible refine grew_drew ?_ | (with_reducible refine grew_set ?_ (by first | exact Nat.le_refl _ | omega | (simp [go_sem]; done) | (simp [go_sem]; omega)))))))) | exact calm_add (i_IsLight L[0] _ hok _ (HT.out.grew (by (repeat (first | with_reducible exact grew_refl _ | with_reducible assumption | with_reducible refine grew_split ?_ | with_reducible refine grew_mk ?_ | with_reducible refine grew_plus ?_ | with_reducible refine grew_alloc ?_ | with_reducible refine grew_drew ?_ | (with_reducible refine grew_set ?_ (by first | exact Nat.le_refl _ | omega | (simp [go_sem]; done) | (simp [go_sem]; omega)))))))))) | (refine wpQuiet_step (fun K hK => ?_); go_simp; go_ite <;> go_simp <;> (first | (refine hK _ ?_; clear hK K) | (apply Exists.intro; refine ⟨fun _ => ?_, hK _ ?_⟩; ((go_at_call 60; first | exact calm_of (i_IsLight L[0] _ hok _ (HT.out.grew (by (repeat (first | with_reducible exact grew_refl _ | with_reducible assumption | with_reducible refine grew_split ?_ | with_reducible refine grew_mk ?_ | with_reducible refine grew_plus ?_ | with_reducible refine grew_alloc ?_ | with_reducible refine grew_drew ?_ | (with_reducible refine grew_set ?_ (by first | exact Nat.le_refl _ | omega | (simp [go_sem]; done) | (simp [go_sem]; omega)))))))) | exact calm_add (i_IsLight L[0] _ hok _ (HT.out.grew (by (repeat (first | with_reducible exact grew_refl _ | with_reducible assumption | with_reducible refine grew_split ?_ | with_reducible refine grew_mk ?_ | with_reducible refine grew_plus ?_ | with_reducible refine grew_alloc ?_ | with_reducible refine grew_drew ?_ | (with_reducible refine grew_set ?_ (by first | exact Nat.le_refl _ | omega | (simp [go_sem]; done) | (simp [go_sem]; omega)))))))))); clear hK K))))); all_goals (refine wpQuiet_nil ?_; intro _ hw'; obtain ⟨gq, hw''⟩ := hw'; subst hw''))
            go_wp2_with fail
            refine (i_ContainsFunc L 0 _ c L[0].core.nm _ _ hnm _ (HS.out.grew (by (repeat (first | with_reducible exact grew_refl _ | with_reducible assumption | with_reducible refine grew_split ?_ | with_reducible refine grew_mk ?_ | with_reducible refine grew_plus ?_ | with_reducible refine grew_alloc ?_ | with_reducible refine grew_drew ?_ | (with_reducible refine grew_set ?_ (by first | exact Nat.le_refl _ | omega | (simp [go_sem]; done) | (simp [go_sem]; omega))))))) (by omega) HL.out (by simp [go_sem]) (by simp [go_sem])).mono ?_
            (rintro e w' ⟨rfl, gx, rfl⟩)
            go_wp2_with fail
            go_roundw
            case rel => exact ⟨1, by omega, by go_num, HF.out, by (repeat (first | with_reducible exact grew_refl _ | with_reducible assumption | with_reducible refine grew_split ?_ | with_reducible refine grew_mk ?_ | with_reducible refine grew_plus ?_ | with_reducible refine grew_alloc ?_ | with_reducible refine grew_drew ?_ | (with_reducible refine grew_set ?_ (by first | exact Nat.le_refl _ | omega | (simp [go_sem]; done) | (simp [go_sem]; omega)))))⟩
            case measure => simp [intOf]; omega
        · obtain ⟨j, rfl⟩ : ∃ j, k = j + 1 := ⟨k - 1, by omega⟩
          have hltj : j < L.length := by omega
          obtain ⟨hp0, hp1, hp2, hp3, hp4, hp5⟩ := lt6 hc hltj
          clear hc hA hp1 hp2 hp3 hp4 hp5
          by_cases hid_ : L[j].core.id < L[j + 1].core.id
          · cases hnm : noNm L L[j + 1].core.nm (j + 1)
            · have HF := hid (lightsB_no hlt (by simp [ltStep, hlt, hnm]))
              go_wp2_with fail
              (refine wp_region_calm (by kernel_rfl) (by kernel_rfl) ?_; (repeat' (first | go_big_quiet_step ((go_at_call 60; first | exact calm_of (i_IsLight L[j + 1] _ hok _ (HT.out.grew (by (repeat (first | with_reducible exact grew_refl _ | with_reducible assumption | with_reducible refine grew_split ?_ | with_reducible refine grew_mk ?_ | with_reducible refine grew_plus ?_ | with_reducible refine grew_alloc ?_ | with_reducible refine grew_drew ?_ | (with_reducible refine grew_set ?_ (by first | exact Nat.le_refl _ | omega | (simp [go_sem]; done) | (simp [go_sem]; omega)))))))) | exact calm_add (i_IsLight L[j + 1] _ hok _ (HT.out.grew (by (repeat (first | with_reducible exact grew_refl _ | with_reducible assumption | with_reducible refine grew_split ?_ | with_reducible refine grew_mk ?_ | with_reducible refine grew_plus ?_ | with_reducible refine grew_alloc ?_ | with_reducible refine grew_drew ?_ | (with_reducible refine grew_set ?_ (by first | exact Nat.le_refl _ | omega | (simp [go_sem]; done) | (simp [go_sem]; omega)))))))))) | (refine wpQuiet_step (fun K hK => ?_); go_simp; go_ite <;> go_simp <;> (first | (refine hK _ ?_; clear hK K) | (apply Exists.intro; refine ⟨fun _ => ?_, hK _ ?_⟩; ((go_at_call 60; first | exact calm_of (i_IsLight L[j + 1] _ hok _ (HT.out.grew (by (repeat (first | with_reducible exact grew_refl _ | with_reducible assumption | with_reducible refine grew_split ?_ | with_reducible refine grew_mk ?_ | with_reducible refine grew_plus ?_ | with_reducible refine grew_alloc ?_ | with_reducible refine grew_drew ?_ | (with_reducible refine grew_set ?_ (by first | exact Nat.le_refl _ | omega | (simp [go_sem]; done) | (simp [go_sem]; omega)))))))) | exact calm_add (i_IsLight L[j + 1] _ hok _ (HT.out.grew (by (repeat (first | with_reducible exact grew_refl _ | with_reducible assumption | with_reducible refine grew_split ?_ | with_reducible refine grew_mk ?_ | with_reducible refine grew_plus ?_ | with_reducible refine grew_alloc ?_ | with_reducible refine grew_drew ?_ | (with_reducible refine grew_set ?_ (by first | exact Nat.le_refl _ | omega | (simp [go_sem]; done) | (simp [go_sem]; omega)))))))))); clear hK K))))); all_goals (refine wpQuiet_nil ?_; intro _ hw'; obtain ⟨gq, hw''⟩ := hw'; subst hw''))
              go_wp2_with fail
              refine (i_ContainsFunc L (j + 1) _ c L[j + 1].core.nm _ _ hnm _ (HS.out.grew (by (repeat (first | with_reducible exact grew_refl _ | with_reducible assumption | with_reducible refine grew_split ?_ | with_reducible refine grew_mk ?_ | with_reducible refine grew_plus ?_ | with_reducible refine grew_alloc ?_ | with_reducible refine grew_drew ?_ | (with_reducible refine grew_set ?_ (by first | exact Nat.le_refl _ | omega | (simp [go_sem]; done) | (simp [go_sem]; omega))))))) (by omega) HL.out (by simp [go_sem]) (by simp [go_sem])).mono ?_
              (rintro e w' ⟨rfl, gx, rfl⟩)
              go_wp2_with fail
              go_ret
              exact ⟨ret_bool HF.out.symm, by (repeat (first | with_reducible exact grew_refl _ | with_reducible assumption | with_reducible refine grew_split ?_ | with_reducible refine grew_mk ?_ | with_reducible refine grew_plus ?_ | with_reducible refine grew_alloc ?_ | with_reducible refine grew_drew ?_ | (with_reducible refine grew_set ?_ (by first | exact Nat.le_refl _ | omega | (simp [go_sem]; done) | (simp [go_sem]; omega)))))⟩
            · have HF := hid (allUpto_step H0.out (show ltStep L (j + 1) = true by simp [ltStep, hlt, hok, hnm, hid_]))
              go_wp2_with fail
              (refine wp_region_calm (by kernel_rfl) (by kernel_rfl) ?_; (repeat' (first | go_big_quiet_step ((go_at_call 60; first | exact calm_of (i_IsLight L[j + 1] _ hok _ (HT.out.grew (by (repeat (first | with_reducible exact grew_refl _ | with_reducible assumption | with_reducible refine grew_split ?_ | with_reducible refine grew_mk ?_ | with_reducible refine grew_plus ?_ | with_reducible refine grew_alloc ?_ | with_reducible refine grew_drew ?_ | (with_reducible refine grew_set ?_ (by first | exact Nat.le_refl _ | omega | (simp [go_sem]; done) | (simp [go_sem]; omega)))))))) | exact calm_add (i_IsLight L[j + 1] _ hok _ (HT.out.grew (by (repeat (first | with_reducible exact grew_refl _ | with_reducible assumption | with_reducible refine grew_split ?_ | with_reducible refine grew_mk ?_ | with_reducible refine grew_plus ?_ | with_reducible refine grew_alloc ?_ | with_reducible refine grew_drew ?_ | (with_reducible refine grew_set ?_ (by first | exact Nat.le_refl _ | omega | (simp [go_sem]; done) | (simp [go_sem]; omega)))))))))) | (refine wpQuiet_step (fun K hK => ?_); go_simp; go_ite <;> go_simp <;> (first | (refine hK _ ?_; clear hK K) | (apply Exists.intro; refine ⟨fun _ => ?_, hK _ ?_⟩; ((go_at_call 60; first | exact calm_of (i_IsLight L[j + 1] _ hok _ (HT.out.grew (by (repeat (first | with_reducible exact grew_refl _ | with_reducible assumption | with_reducible refine grew_split ?_ | with_reducible refine grew_mk ?_ | with_reducible refine grew_plus ?_ | with_reducible refine grew_alloc ?_ | with_reducible refine grew_drew ?_ | (with_reducible refine grew_set ?_ (by first | exact Nat.le_refl _ | omega | (simp [go_sem]; done) | (simp [go_sem]; omega)))))))) | exact calm_add (i_IsLight L[j + 1] _ hok _ (HT.out.grew (by (repeat (first | with_reducible exact grew_refl _ | with_reducible assumption | with_reducible refine grew_split ?_ | with_reducible refine grew_mk ?_ | with_reducible refine grew_plus ?_ | with_reducible refine grew_alloc ?_ | with_reducible refine grew_drew ?_ | (with_reducible refine grew_set ?_ (by first | exact Nat.le_refl _ | omega | (simp [go_sem]; done) | (simp [go_sem]; omega)))))))))); clear hK K))))); all_goals (refine wpQuiet_nil ?_; intro _ hw'; obtain ⟨gq, hw''⟩ := hw'; subst hw''))
              go_wp2_with fail
              refine (i_ContainsFunc L (j + 1) _ c L[j + 1].core.nm _ _ hnm _ (HS.out.grew (by (repeat (first | with_reducible exact grew_refl _ | with_reducible assumption | with_reducible refine grew_split ?_ | with_reducible refine grew_mk ?_ | with_reducible refine grew_plus ?_ | with_reducible refine grew_alloc ?_ | with_reducible refine grew_drew ?_ | (with_reducible refine grew_set ?_ (by first | exact Nat.le_refl _ | omega | (simp [go_sem]; done) | (simp [go_sem]; omega))))))) (by omega) HL.out (by simp [go_sem]) (by simp [go_sem])).mono ?_
              (rintro e w' ⟨rfl, gx, rfl⟩)
              go_wp2_with fail
              go_roundw
              case rel => exact ⟨j + 2, by omega, by go_num, HF.out, by (repeat (first | with_reducible exact grew_refl _ | with_reducible assumption | with_reducible refine grew_split ?_ | with_reducible refine grew_mk ?_ | with_reducible refine grew_plus ?_ | with_reducible refine grew_alloc ?_ | with_reducible refine grew_drew ?_ | (with_reducible refine grew_set ?_ (by first | exact Nat.le_refl _ | omega | (simp [go_sem]; done) | (simp [go_sem]; omega)))))⟩
              case measure => simp [intOf]; omega
          · have HF := hid (lightsB_no hlt (by simp [ltStep, hlt, hid_]))
            go_wp2_with fail
            (refine wp_region_calm (by kernel_rfl) (by kernel_rfl) ?_; (repeat' (first | go_big_quiet_step ((go_at_call 60; first | exact calm_of (i_IsLight L[j + 1] _ hok _ (HT.out.grew (by (repeat (first | with_reducible exact grew_refl _ | with_reducible assumption | with_reducible refine grew_split ?_ | with_reducible refine grew_mk ?_ | with_reducible refine grew_plus ?_ | with_reducible refine grew_alloc ?_ | with_reducible refine grew_drew ?_ | (with_reducible refine grew_set ?_ (by first | exact Nat.le_refl _ | omega | (simp [go_sem]; done) | (simp [go_sem]; omega)))))))) | exact calm_add (i_IsLight L[j + 1] _ hok _ (HT.out.grew (by (repeat (first | with_reducible exact grew_refl _ | with_reducible assumption | with_reducible refine grew_split ?_ | with_reducible refine grew_mk ?_ | with_reducible refine grew_plus ?_ | with_reducible refine grew_alloc ?_ | with_reducible refine grew_drew ?_ | (with_reducible refine grew_set ?_ (by first | exact Nat.le_refl _ | omega | (simp [go_sem]; done) | (simp [go_sem]; omega)))))))))) | (refine wpQuiet_step (fun K hK => ?_); go_simp; go_ite <;> go_simp <;> (first | (refine hK _ ?_; clear hK K) | (apply Exists.intro; refine ⟨fun _ => ?_, hK _ ?_⟩; ((go_at_call 60; first | exact calm_of (i_IsLight L[j + 1] _ hok _ (HT.out.grew (by (repeat (first | with_reducible exact grew_refl _ | with_reducible assumption | with_reducible refine grew_split ?_ | with_reducible refine grew_mk ?_ | with_reducible refine grew_plus ?_ | with_reducible refine grew_alloc ?_ | with_reducible refine grew_drew ?_ | (with_reducible refine grew_set ?_ (by first | exact Nat.le_refl _ | omega | (simp [go_sem]; done) | (simp [go_sem]; omega)))))))) | exact calm_add (i_IsLight L[j + 1] _ hok _ (HT.out.grew (by (repeat (first | with_reducible exact grew_refl _ | with_reducible assumption | with_reducible refine grew_split ?_ | with_reducible refine grew_mk ?_ | with_reducible refine grew_plus ?_ | with_reducible refine grew_alloc ?_ | with_reducible refine grew_drew ?_ | (with_reducible refine grew_set ?_ (by first | exact Nat.le_refl _ | omega | (simp [go_sem]; done) | (simp [go_sem]; omega)))))))))); clear hK K))))); all_goals (refine wpQuiet_nil ?_; intro _ hw'; obtain ⟨gq, hw''⟩ := hw'; subst hw''))
            go_wp2
            go_ret
            exact ⟨ret_bool HF.out.symm, by (repeat (first | with_reducible exact grew_refl _ | with_reducible assumption | with_reducible refine grew_split ?_ | with_reducible refine grew_mk ?_ | with_reducible refine grew_plus ?_ | with_reducible refine grew_alloc ?_ | with_reducible refine grew_drew ?_ | (with_reducible refine grew_set ?_ (by first | exact Nat.le_refl _ | omega | (simp [go_sem]; done) | (simp [go_sem]; omega)))))⟩
    · obtain rfl : k = L.length := by omega
      clear hA
      go_wp2
      go_ret
      exact ⟨ret_bool (by rw [lightsB, H0.out, Bool.true_and]; exact decide_eq_decide.2 (by omega)), by (repeat (first | with_reducible exact grew_refl _ | with_reducible assumption | with_reducible refine grew_split ?_ | with_reducible refine grew_mk ?_ | with_reducible refine grew_plus ?_ | with_reducible refine grew_alloc ?_ | with_reducible refine grew_drew ?_ | (with_reducible refine grew_set ?_ (by first | exact Nat.le_refl _ | omega | (simp [go_sem]; done) | (simp [go_sem]; omega)))))⟩
theorem lightsB_long {L : List LightV} (h : 10 < L.length) : lightsB L = false := by
  rw [lightsB, decide_eq_false (show ¬ L.length ≤ 10 by omega), Bool.and_false]
set_option maxHeartbeats 4000000 in
theorem s_l24Good (L : List LightV) (A : Option Addr) (c : Nat) (o : Bool) (ho : lightsB L = o) (w : World) (hA : Sl w 6 LightV.row A L) (hat : ∀ u ∈ L, u.At w) (hl : L.length ≤ maxLen) :
    Calls Try.prog 31 #[.slice A L.length c] w fun e' w' => e' = .returned (.bool o) ∧ ∃ g, w' = plus w g := by
  subst ho
  unfold maxLen at hl
  have HAT := hid hat
  clear hat
  go_enter Try.func31, Try.ntmps31
  go_wp2_with fail
  go_loopw [3, 4] (fun i _ wr => ∃ k : Nat, k ≤ L.length ∧ k ≤ 11 ∧ i = .int .i64 k ∧ allUpto (ltStep L) k = true ∧ (∃ g, wr = plus w g)) (fun i _ _ => L.length - (intOf i).toNat)
  case atStart => exact ⟨0, Nat.zero_le _, by omega, rfl, rfl, _, plus_refl _⟩
  case round =>
    obtain ⟨k, hk, hk11, rfl, h0, g, rfl⟩ := hrel
    have H0 := hid h0
    clear h0
    by_cases hlt : k < L.length
    · by_cases hk10 : k ≤ 10
      · obtain ⟨b, off, rfl, hb, hc⟩ := hA.at_ hlt
        have HC := hid hc
        obtain ⟨hc0, hc1, hc2, hc3, hc4, hc5⟩ := lt6 hc hlt
        have HT := hid (HAT.out L[k] (List.getElem_mem hlt))
        cases hok : L[k].core.ok
        · have HF := hid (lightsB_no hlt (by simp [ltStep, hlt, hok]))
          clear hc hA
          go_wp2_with fail
          (refine wp_region_calm (by kernel_rfl) (by kernel_rfl) ?_; (repeat' (first | go_big_quiet_step ((go_at_call 64; first | exact calm_of (s_l24One L[k] _ hok _ (HT.out.grew (by (repeat (first | with_reducible exact grew_refl _ | with_reducible assumption | with_reducible refine grew_split ?_ | with_reducible refine grew_mk ?_ | with_reducible refine grew_plus ?_ | with_reducible refine grew_alloc ?_ | with_reducible refine grew_drew ?_ | (with_reducible refine grew_set ?_ (by first | exact Nat.le_refl _ | omega | (simp [go_sem]; done) | (simp [go_sem]; omega)))))))) | exact calm_add (s_l24One L[k] _ hok _ (HT.out.grew (by (repeat (first | with_reducible exact grew_refl _ | with_reducible assumption | with_reducible refine grew_split ?_ | with_reducible refine grew_mk ?_ | with_reducible refine grew_plus ?_ | with_reducible refine grew_alloc ?_ | with_reducible refine grew_drew ?_ | (with_reducible refine grew_set ?_ (by first | exact Nat.le_refl _ | omega | (simp [go_sem]; done) | (simp [go_sem]; omega)))))))))) | (refine wpQuiet_step (fun K hK => ?_); go_simp; go_ite <;> go_simp <;> (first | (refine hK _ ?_; clear hK K) | (apply Exists.intro; refine ⟨fun _ => ?_, hK _ ?_⟩; ((go_at_call 64; first | exact calm_of (s_l24One L[k] _ hok _ (HT.out.grew (by (repeat (first | with_reducible exact grew_refl _ | with_reducible assumption | with_reducible refine grew_split ?_ | with_reducible refine grew_mk ?_ | with_reducible refine grew_plus ?_ | with_reducible refine grew_alloc ?_ | with_reducible refine grew_drew ?_ | (with_reducible refine grew_set ?_ (by first | exact Nat.le_refl _ | omega | (simp [go_sem]; done) | (simp [go_sem]; omega)))))))) | exact calm_add (s_l24One L[k] _ hok _ (HT.out.grew (by (repeat (first | with_reducible exact grew_refl _ | with_reducible assumption | with_reducible refine grew_split ?_ | with_reducible refine grew_mk ?_ | with_reducible refine grew_plus ?_ | with_reducible refine grew_alloc ?_ | with_reducible refine grew_drew ?_ | (with_reducible refine grew_set ?_ (by first | exact Nat.le_refl _ | omega | (simp [go_sem]; done) | (simp [go_sem]; omega)))))))))); clear hK K))))); all_goals (refine wpQuiet_nil ?_; intro _ hw'; obtain ⟨gq, hw''⟩ := hw'; subst hw''))
          go_wp2
          go_ret
          exact ⟨ret_bool HF.out.symm, by (repeat (first | with_reducible exact grew_refl _ | with_reducible assumption | with_reducible refine grew_split ?_ | with_reducible refine grew_mk ?_ | with_reducible refine grew_plus ?_ | with_reducible refine grew_alloc ?_ | with_reducible refine grew_drew ?_ | (with_reducible refine grew_set ?_ (by first | exact Nat.le_refl _ | omega | (simp [go_sem]; done) | (simp [go_sem]; omega)))))⟩
        · by_cases hord : (if h0 : 0 < k then decide (L[k - 1].core.id < L[k].core.id) else true) = true
          · have HK := hid hok
            by_cases hk0 : k = 0
            · subst hk0
              simp only [Nat.zero_mul, Nat.add_zero] at hc0 hc1 hc2 hc3 hc4 hc5
              clear hc hA hord
              (go_wp2_with fail; (refine wp_region_calm (by kernel_rfl) (by kernel_rfl) ?_; (repeat' (first | go_big_quiet_step ((go_at_call 64; first | exact calm_of (s_l24One L[0] _ hok _ (HT.out.grew (by (repeat (first | with_reducible exact grew_refl _ | with_reducible assumption | with_reducible refine grew_split ?_ | with_reducible refine grew_mk ?_ | with_reducible refine grew_plus ?_ | with_reducible refine grew_alloc ?_ | with_reducible refine grew_drew ?_ | (with_reducible refine grew_set ?_ (by first | exact Nat.le_refl _ | omega | (simp [go_sem]; done) | (simp [go_sem]; omega)))))))) | exact calm_add (s_l24One L[0] _ hok _ (HT.out.grew (by (repeat (first | with_reducible exact grew_refl _ | with_reducible assumption | with_reducible refine grew_split ?_ | with_reducible refine grew_mk ?_ | with_reducible refine grew_plus ?_ | with_reducible refine grew_alloc ?_ | with_reducible refine grew_drew ?_ | (with_reducible refine grew_set ?_ (by first | exact Nat.le_refl _ | omega | (simp [go_sem]; done) | (simp [go_sem]; omega)))))))))) | (refine wpQuiet_step (fun K hK => ?_); go_simp; go_ite <;> go_simp <;> (first | (refine hK _ ?_; clear hK K) | (apply Exists.intro; refine ⟨fun _ => ?_, hK _ ?_⟩; ((go_at_call 64; first | exact calm_of (s_l24One L[0] _ hok _ (HT.out.grew (by (repeat (first | with_reducible exact grew_refl _ | with_reducible assumption | with_reducible refine grew_split ?_ | with_reducible refine grew_mk ?_ | with_reducible refine grew_plus ?_ | with_reducible refine grew_alloc ?_ | with_reducible refine grew_drew ?_ | (with_reducible refine grew_set ?_ (by first | exact Nat.le_refl _ | omega | (simp [go_sem]; done) | (simp [go_sem]; omega)))))))) | exact calm_add (s_l24One L[0] _ hok _ (HT.out.grew (by (repeat (first | with_reducible exact grew_refl _ | with_reducible assumption | with_reducible refine grew_split ?_ | with_reducible refine grew_mk ?_ | with_reducible refine grew_plus ?_ | with_reducible refine grew_alloc ?_ | with_reducible refine grew_drew ?_ | (with_reducible refine grew_set ?_ (by first | exact Nat.le_refl _ | omega | (simp [go_sem]; done) | (simp [go_sem]; omega)))))))))); clear hK K))))); all_goals (refine wpQuiet_nil ?_; intro _ hw'; obtain ⟨gq, hw''⟩ := hw'; subst hw'')))
              go_wp2_with fail
              go_loopw [4] (fun i wr => i = .int .i64 0 ∧ (∃ g', wr = plus w g')) (fun i _ => 0)
              case atStart => exact ⟨rfl, by (repeat (first | with_reducible exact grew_refl _ | with_reducible assumption | with_reducible refine grew_split ?_ | with_reducible refine grew_mk ?_ | with_reducible refine grew_plus ?_ | with_reducible refine grew_alloc ?_ | with_reducible refine grew_drew ?_ | (with_reducible refine grew_set ?_ (by first | exact Nat.le_refl _ | omega | (simp [go_sem]; done) | (simp [go_sem]; omega)))))⟩
              case round =>
                obtain ⟨rfl, g', rfl⟩ := hrel
                have HF := hid (allUpto_step H0.out (show ltStep L 0 = true by simp [ltStep, hlt, HK.out, noNm, allUpto]))
                go_wp2
                go_roundw
                case rel => exact ⟨1, by omega, by omega, by go_num, HF.out, by (repeat (first | with_reducible exact grew_refl _ | with_reducible assumption | with_reducible refine grew_split ?_ | with_reducible refine grew_mk ?_ | with_reducible refine grew_plus ?_ | with_reducible refine grew_alloc ?_ | with_reducible refine grew_drew ?_ | (with_reducible refine grew_set ?_ (by first | exact Nat.le_refl _ | omega | (simp [go_sem]; done) | (simp [go_sem]; omega)))))⟩
                case measure => simp [intOf]; omega
            · obtain ⟨j, rfl⟩ : ∃ j, k = j + 1 := ⟨k - 1, by omega⟩
              have hltj : j < L.length := by omega
              obtain ⟨hp0, hp1, hp2, hp3, hp4, hp5⟩ := lt6 hc hltj
              have hid_ : L[j].core.id < L[j + 1].core.id := by simpa using hord
              clear hc hA hp1 hp2 hp3 hp4 hp5 hord
              (go_wp2_with fail; (refine wp_region_calm (by kernel_rfl) (by kernel_rfl) ?_; (repeat' (first | go_big_quiet_step ((go_at_call 64; first | exact calm_of (s_l24One L[j + 1] _ hok _ (HT.out.grew (by (repeat (first | with_reducible exact grew_refl _ | with_reducible assumption | with_reducible refine grew_split ?_ | with_reducible refine grew_mk ?_ | with_reducible refine grew_plus ?_ | with_reducible refine grew_alloc ?_ | with_reducible refine grew_drew ?_ | (with_reducible refine grew_set ?_ (by first | exact Nat.le_refl _ | omega | (simp [go_sem]; done) | (simp [go_sem]; omega)))))))) | exact calm_add (s_l24One L[j + 1] _ hok _ (HT.out.grew (by (repeat (first | with_reducible exact grew_refl _ | with_reducible assumption | with_reducible refine grew_split ?_ | with_reducible refine grew_mk ?_ | with_reducible refine grew_plus ?_ | with_reducible refine grew_alloc ?_ | with_reducible refine grew_drew ?_ | (with_reducible refine grew_set ?_ (by first | exact Nat.le_refl _ | omega | (simp [go_sem]; done) | (simp [go_sem]; omega)))))))))) | (refine wpQuiet_step (fun K hK => ?_); go_simp; go_ite <;> go_simp <;> (first | (refine hK _ ?_; clear hK K) | (apply Exists.intro; refine ⟨fun _ => ?_, hK _ ?_⟩; ((go_at_call 64; first | exact calm_of (s_l24One L[j + 1] _ hok _ (HT.out.grew (by (repeat (first | with_reducible exact grew_refl _ | with_reducible assumption | with_reducible refine grew_split ?_ | with_reducible refine grew_mk ?_ | with_reducible refine grew_plus ?_ | with_reducible refine grew_alloc ?_ | with_reducible refine grew_drew ?_ | (with_reducible refine grew_set ?_ (by first | exact Nat.le_refl _ | omega | (simp [go_sem]; done) | (simp [go_sem]; omega)))))))) | exact calm_add (s_l24One L[j + 1] _ hok _ (HT.out.grew (by (repeat (first | with_reducible exact grew_refl _ | with_reducible assumption | with_reducible refine grew_split ?_ | with_reducible refine grew_mk ?_ | with_reducible refine grew_plus ?_ | with_reducible refine grew_alloc ?_ | with_reducible refine grew_drew ?_ | (with_reducible refine grew_set ?_ (by first | exact Nat.le_refl _ | omega | (simp [go_sem]; done) | (simp [go_sem]; omega)))))))))); clear hK K))))); all_goals (refine wpQuiet_nil ?_; intro _ hw'; obtain ⟨gq, hw''⟩ := hw'; subst hw'')))
              go_wp2_with fail
              go_loopw [4] (fun i wr => ∃ m : Nat, m ≤ j + 1 ∧ i = .int .i64 m ∧ noNm L L[j + 1].core.nm m = true ∧ (∃ g', wr = plus w g')) (fun i _ => j + 1 - (intOf i).toNat)
              case atStart => exact ⟨0, Nat.zero_le _, rfl, rfl, by (repeat (first | with_reducible exact grew_refl _ | with_reducible assumption | with_reducible refine grew_split ?_ | with_reducible refine grew_mk ?_ | with_reducible refine grew_plus ?_ | with_reducible refine grew_alloc ?_ | with_reducible refine grew_drew ?_ | (with_reducible refine grew_set ?_ (by first | exact Nat.le_refl _ | omega | (simp [go_sem]; done) | (simp [go_sem]; omega)))))⟩
              case round =>
                obtain ⟨m, hm, rfl, hn0, g', rfl⟩ := hrel
                have HN0 := hid hn0
                clear hn0
                by_cases hltm : m < j + 1
                · have hltmL : m < L.length := by omega
                  obtain ⟨he0, he1, he2, he3, he4, he5⟩ := lt6 HC.out hltmL
                  clear he0 he2 he3 he4 he5
                  cases hq : L[m].core.nm.toList == L[j + 1].core.nm.toList
                  · have HQ := hid (noNm_step hltmL HN0.out hq)
                    go_wp2_with fail
                    (refine wp_region_calm (by kernel_rfl) (by kernel_rfl) ?_; (repeat' (first | go_big_quiet_step (fail) | (refine wpQuiet_step (fun K hK => ?_); go_simp; go_ite <;> go_simp <;> (first | (refine hK _ ?_; clear hK K) | (apply Exists.intro; refine ⟨fun _ => ?_, hK _ ?_⟩; (fail); clear hK K))))); all_goals (refine wpQuiet_nil ?_; intro _ hw'; obtain ⟨gq, hw''⟩ := hw'; subst hw''))
                    go_wp2
                    go_roundw
                    case rel => exact ⟨m + 1, by omega, by go_num, HQ.out, by (repeat (first | with_reducible exact grew_refl _ | with_reducible assumption | with_reducible refine grew_split ?_ | with_reducible refine grew_mk ?_ | with_reducible refine grew_plus ?_ | with_reducible refine grew_alloc ?_ | with_reducible refine grew_drew ?_ | (with_reducible refine grew_set ?_ (by first | exact Nat.le_refl _ | omega | (simp [go_sem]; done) | (simp [go_sem]; omega)))))⟩
                    case measure => simp [intOf]; omega
                  · have HQ := hid (noNm_hit (n := j + 1) hltmL hltm hq)
                    have HF := hid (lightsB_no hlt (by simp [ltStep, hlt, HQ.out]))
                    go_wp2_with fail
                    (refine wp_region_calm (by kernel_rfl) (by kernel_rfl) ?_; (repeat' (first | go_big_quiet_step (fail) | (refine wpQuiet_step (fun K hK => ?_); go_simp; go_ite <;> go_simp <;> (first | (refine hK _ ?_; clear hK K) | (apply Exists.intro; refine ⟨fun _ => ?_, hK _ ?_⟩; (fail); clear hK K))))); all_goals (refine wpQuiet_nil ?_; intro _ hw'; obtain ⟨gq, hw''⟩ := hw'; subst hw''))
                    go_wp2
                    go_ret
                    exact ⟨ret_bool HF.out.symm, by (repeat (first | with_reducible exact grew_refl _ | with_reducible assumption | with_reducible refine grew_split ?_ | with_reducible refine grew_mk ?_ | with_reducible refine grew_plus ?_ | with_reducible refine grew_alloc ?_ | with_reducible refine grew_drew ?_ | (with_reducible refine grew_set ?_ (by first | exact Nat.le_refl _ | omega | (simp [go_sem]; done) | (simp [go_sem]; omega)))))⟩
                · obtain rfl : m = j + 1 := by omega
                  have HF := hid (allUpto_step H0.out (show ltStep L (j + 1) = true by simp [ltStep, hlt, HK.out, HN0.out]; try omega))
                  go_wp2
                  go_roundw
                  case rel => exact ⟨j + 1 + 1, by omega, by omega, by go_num, HF.out, by (repeat (first | with_reducible exact grew_refl _ | with_reducible assumption | with_reducible refine grew_split ?_ | with_reducible refine grew_mk ?_ | with_reducible refine grew_plus ?_ | with_reducible refine grew_alloc ?_ | with_reducible refine grew_drew ?_ | (with_reducible refine grew_set ?_ (by first | exact Nat.le_refl _ | omega | (simp [go_sem]; done) | (simp [go_sem]; omega)))))⟩
                  case measure => simp [intOf]; omega
          · obtain ⟨j, rfl⟩ : ∃ j, k = j + 1 := ⟨k - 1, by
              by_cases h : k = 0
              · subst h; simp at hord
              · omega⟩
            have hltj : j < L.length := by omega
            obtain ⟨hp0, hp1, hp2, hp3, hp4, hp5⟩ := lt6 hc hltj
            have hid_ : ¬ L[j].core.id < L[j + 1].core.id := by simpa using hord
            have HF := hid (lightsB_no hlt (by simp [ltStep, hlt, hid_]))
            clear hc hA hp1 hp2 hp3 hp4 hp5 hord
            (go_wp2_with fail; (refine wp_region_calm (by kernel_rfl) (by kernel_rfl) ?_; (repeat' (first | go_big_quiet_step ((go_at_call 64; first | exact calm_of (s_l24One L[j + 1] _ hok _ (HT.out.grew (by (repeat (first | with_reducible exact grew_refl _ | with_reducible assumption | with_reducible refine grew_split ?_ | with_reducible refine grew_mk ?_ | with_reducible refine grew_plus ?_ | with_reducible refine grew_alloc ?_ | with_reducible refine grew_drew ?_ | (with_reducible refine grew_set ?_ (by first | exact Nat.le_refl _ | omega | (simp [go_sem]; done) | (simp [go_sem]; omega)))))))) | exact calm_add (s_l24One L[j + 1] _ hok _ (HT.out.grew (by (repeat (first | with_reducible exact grew_refl _ | with_reducible assumption | with_reducible refine grew_split ?_ | with_reducible refine grew_mk ?_ | with_reducible refine grew_plus ?_ | with_reducible refine grew_alloc ?_ | with_reducible refine grew_drew ?_ | (with_reducible refine grew_set ?_ (by first | exact Nat.le_refl _ | omega | (simp [go_sem]; done) | (simp [go_sem]; omega)))))))))) | (refine wpQuiet_step (fun K hK => ?_); go_simp; go_ite <;> go_simp <;> (first | (refine hK _ ?_; clear hK K) | (apply Exists.intro; refine ⟨fun _ => ?_, hK _ ?_⟩; ((go_at_call 64; first | exact calm_of (s_l24One L[j + 1] _ hok _ (HT.out.grew (by (repeat (first | with_reducible exact grew_refl _ | with_reducible assumption | with_reducible refine grew_split ?_ | with_reducible refine grew_mk ?_ | with_reducible refine grew_plus ?_ | with_reducible refine grew_alloc ?_ | with_reducible refine grew_drew ?_ | (with_reducible refine grew_set ?_ (by first | exact Nat.le_refl _ | omega | (simp [go_sem]; done) | (simp [go_sem]; omega)))))))) | exact calm_add (s_l24One L[j + 1] _ hok _ (HT.out.grew (by (repeat (first | with_reducible exact grew_refl _ | with_reducible assumption | with_reducible refine grew_split ?_ | with_reducible refine grew_mk ?_ | with_reducible refine grew_plus ?_ | with_reducible refine grew_alloc ?_ | with_reducible refine grew_drew ?_ | (with_reducible refine grew_set ?_ (by first | exact Nat.le_refl _ | omega | (simp [go_sem]; done) | (simp [go_sem]; omega)))))))))); clear hK K))))); all_goals (refine wpQuiet_nil ?_; intro _ hw'; obtain ⟨gq, hw''⟩ := hw'; subst hw'')))
            go_wp2
            go_ret
            exact ⟨ret_bool HF.out.symm, by (repeat (first | with_reducible exact grew_refl _ | with_reducible assumption | with_reducible refine grew_split ?_ | with_reducible refine grew_mk ?_ | with_reducible refine grew_plus ?_ | with_reducible refine grew_alloc ?_ | with_reducible refine grew_drew ?_ | (with_reducible refine grew_set ?_ (by first | exact Nat.le_refl _ | omega | (simp [go_sem]; done) | (simp [go_sem]; omega)))))⟩
      · obtain rfl : k = 11 := by omega
        have HF := hid (lightsB_long (L := L) (by omega))
        clear hA
        go_wp2
        go_ret
        exact ⟨ret_bool (by rw [HF.out]; exact decide_eq_false (by omega)), by (repeat (first | with_reducible exact grew_refl _ | with_reducible assumption | with_reducible refine grew_split ?_ | with_reducible refine grew_mk ?_ | with_reducible refine grew_plus ?_ | with_reducible refine grew_alloc ?_ | with_reducible refine grew_drew ?_ | (with_reducible refine grew_set ?_ (by first | exact Nat.le_refl _ | omega | (simp [go_sem]; done) | (simp [go_sem]; omega)))))⟩
    · obtain rfl : k = L.length := by omega
      clear hA
      go_wp2
      go_ret
      exact ⟨ret_bool (by rw [lightsB, H0.out, Bool.true_and]; exact decide_eq_decide.2 (by omega)), by (repeat (first | with_reducible exact grew_refl _ | with_reducible assumption | with_reducible refine grew_split ?_ | with_reducible refine grew_mk ?_ | with_reducible refine grew_plus ?_ | with_reducible refine grew_alloc ?_ | with_reducible refine grew_drew ?_ | (with_reducible refine grew_set ?_ (by first | exact Nat.le_refl _ | omega | (simp [go_sem]; done) | (simp [go_sem]; omega)))))⟩
end Go.Proofs.Ytjlaidjogladaaa
