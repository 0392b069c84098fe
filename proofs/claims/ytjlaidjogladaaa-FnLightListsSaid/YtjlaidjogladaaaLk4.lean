/- Which lights are seen from a spot: the reference. -/
import Derived.Test.YtjlaidjogladaaaLk3
namespace Go.Proofs.Ytjlaidjogladaaa
open Go.RowKit

set_option maxHeartbeats 2000000 in
theorem s_SeenFrom (L : List LightV) (A : Option Addr) (c : Nat) (x y : Int) (R : List Int) (o : Bool) (hR : whereF (seenP x y) (spotB x y) L = (R, o)) (w : World) (hA : Lts w A L) (hl : L.length ≤ maxLen) :
    Calls Try.prog 20 #[.slice A L.length c, .agg #[.int .i64 x, .int .i64 y]] w fun e w' => (∃ A' c', e = .returned (.tuple #[.slice A' R.length c', .bool o]) ∧ OwnF w.heap.size 3 1 intRow w' A' R) ∧ ∃ g, w' = plus w g := by
  have HV := hid hA
  clear hA
  cases hg_ : lightsB L && spotB x y
  · have hF : whereF (seenP x y) (spotB x y) L = ([], false) := by simp only [whereF, hg_]; rfl
    rw [hF] at hR
    injection hR with h1 h2
    subst h1 h2
    cases hg1 : lightsB L
    · go_enter Try.func20, Try.ntmps20
      go_wp2_with (first | (go_at_call 31; refine (s_l24Good L A c _ hg1 _ (HV.out.grew (by (repeat (first | with_reducible exact grew_refl _ | with_reducible assumption | with_reducible refine grew_split ?_ | with_reducible refine grew_mk ?_ | with_reducible refine grew_plus ?_ | with_reducible refine grew_alloc ?_ | with_reducible refine grew_drew ?_ | (with_reducible refine grew_set ?_ (by first | exact Nat.le_refl _ | omega | (simp [go_sem]; done) | (simp [go_sem]; omega))))))).sl (HV.out.grew (by (repeat (first | with_reducible exact grew_refl _ | with_reducible assumption | with_reducible refine grew_split ?_ | with_reducible refine grew_mk ?_ | with_reducible refine grew_plus ?_ | with_reducible refine grew_alloc ?_ | with_reducible refine grew_drew ?_ | (with_reducible refine grew_set ?_ (by first | exact Nat.le_refl _ | omega | (simp [go_sem]; done) | (simp [go_sem]; omega))))))).at_ hl).mono ?_; (rintro e w' ⟨rfl, gx, rfl⟩)) | (go_at_call 52; refine (s_l2Spot x y _ rfl _).mono ?_; (rintro e w' ⟨rfl, gx, rfl⟩)))
      go_ret2
      exact ⟨⟨_, _, rfl, .inl rfl⟩, by (repeat (first | with_reducible exact grew_refl _ | with_reducible assumption | with_reducible refine grew_split ?_ | with_reducible refine grew_mk ?_ | with_reducible refine grew_plus ?_ | with_reducible refine grew_alloc ?_ | with_reducible refine grew_drew ?_ | (with_reducible refine grew_set ?_ (by first | exact Nat.le_refl _ | omega | (simp [go_sem]; done) | (simp [go_sem]; omega)))))⟩
    · have hg2 : (inB x 0 1000 && inB y 0 1000) = false := by rw [hg1, Bool.true_and] at hg_; exact hg_
      have HG2 := hid hg2
      clear hg2 hg_
      go_enter Try.func20, Try.ntmps20
      go_wp2_with (first | (go_at_call 31; refine (s_l24Good L A c _ hg1 _ (HV.out.grew (by (repeat (first | with_reducible exact grew_refl _ | with_reducible assumption | with_reducible refine grew_split ?_ | with_reducible refine grew_mk ?_ | with_reducible refine grew_plus ?_ | with_reducible refine grew_alloc ?_ | with_reducible refine grew_drew ?_ | (with_reducible refine grew_set ?_ (by first | exact Nat.le_refl _ | omega | (simp [go_sem]; done) | (simp [go_sem]; omega))))))).sl (HV.out.grew (by (repeat (first | with_reducible exact grew_refl _ | with_reducible assumption | with_reducible refine grew_split ?_ | with_reducible refine grew_mk ?_ | with_reducible refine grew_plus ?_ | with_reducible refine grew_alloc ?_ | with_reducible refine grew_drew ?_ | (with_reducible refine grew_set ?_ (by first | exact Nat.le_refl _ | omega | (simp [go_sem]; done) | (simp [go_sem]; omega))))))).at_ hl).mono ?_; (rintro e w' ⟨rfl, gx, rfl⟩)) | (go_at_call 52; refine (s_l2Spot x y _ HG2.out _).mono ?_; (rintro e w' ⟨rfl, gx, rfl⟩)))
      go_ret2
      exact ⟨⟨_, _, rfl, .inl rfl⟩, by (repeat (first | with_reducible exact grew_refl _ | with_reducible assumption | with_reducible refine grew_split ?_ | with_reducible refine grew_mk ?_ | with_reducible refine grew_plus ?_ | with_reducible refine grew_alloc ?_ | with_reducible refine grew_drew ?_ | (with_reducible refine grew_set ?_ (by first | exact Nat.le_refl _ | omega | (simp [go_sem]; done) | (simp [go_sem]; omega)))))⟩
  · have hF : whereF (seenP x y) (spotB x y) L = (whereTo (seenP x y) L L.length, true) := by simp only [whereF, hg_]; rfl
    rw [hF] at hR
    injection hR with h1 h2
    subst h1 h2
    simp only [Bool.and_eq_true] at hg_
    have HG1 := hid hg_.1
    have HG2 := hid hg_.2
    have hl10 := lights_lenS HG1.out
    clear hg_ hF
    go_enter Try.func20, Try.ntmps20
    go_wp2_with (first | (go_at_call 31; refine (s_l24Good L A c _ HG1.out _ (HV.out.grew (by (repeat (first | with_reducible exact grew_refl _ | with_reducible assumption | with_reducible refine grew_split ?_ | with_reducible refine grew_mk ?_ | with_reducible refine grew_plus ?_ | with_reducible refine grew_alloc ?_ | with_reducible refine grew_drew ?_ | (with_reducible refine grew_set ?_ (by first | exact Nat.le_refl _ | omega | (simp [go_sem]; done) | (simp [go_sem]; omega))))))).sl (HV.out.grew (by (repeat (first | with_reducible exact grew_refl _ | with_reducible assumption | with_reducible refine grew_split ?_ | with_reducible refine grew_mk ?_ | with_reducible refine grew_plus ?_ | with_reducible refine grew_alloc ?_ | with_reducible refine grew_drew ?_ | (with_reducible refine grew_set ?_ (by first | exact Nat.le_refl _ | omega | (simp [go_sem]; done) | (simp [go_sem]; omega))))))).at_ hl).mono ?_; (rintro e w' ⟨rfl, gx, rfl⟩)) | (go_at_call 52; refine (s_l2Spot x y _ HG2.out _).mono ?_; (rintro e w' ⟨rfl, gx, rfl⟩)))
    go_loopw [6, 7] (fun a i wr => ∃ (k : Nat) (A' : Option Addr) (c' : Nat), k ≤ L.length ∧ i = .int .i64 k ∧ a = .slice A' (whereTo (seenP x y) L k).length c' ∧ Own (w.alloc (.cells #[.int .i64 x, .int .i64 y] 37)).heap.size 3 1 intRow wr A' c' (whereTo (seenP x y) L k) ∧ (∃ g, wr = plus (w.alloc (.cells #[.int .i64 x, .int .i64 y] 37)) g)) (fun _ i _ => L.length - (intOf i).toNat)
    case atStart => exact ⟨0, _, _, Nat.zero_le _, rfl, rfl, Own.newIn (by (repeat (first | with_reducible exact grew_refl _ | with_reducible assumption | with_reducible refine grew_split ?_ | with_reducible refine grew_mk ?_ | with_reducible refine grew_plus ?_ | with_reducible refine grew_alloc ?_ | with_reducible refine grew_drew ?_ | (with_reducible refine grew_set ?_ (by first | exact Nat.le_refl _ | omega | (simp [go_sem]; done) | (simp [go_sem]; omega)))))) rfl (by simp [go_sem]) (by simp [go_sem]), by (repeat (first | with_reducible exact grew_refl _ | with_reducible assumption | with_reducible refine grew_split ?_ | with_reducible refine grew_mk ?_ | with_reducible refine grew_plus ?_ | with_reducible refine grew_alloc ?_ | with_reducible refine grew_drew ?_ | (with_reducible refine grew_set ?_ (by first | exact Nat.le_refl _ | omega | (simp [go_sem]; done) | (simp [go_sem]; omega)))))⟩
    case round =>
      obtain ⟨k, A', c', hk, rfl, rfl, hO, g, rfl⟩ := hrel
      have HO := hid hO
      clear hO
      by_cases hlt : k < L.length
      · obtain ⟨b', off, rfl, hb', hcl⟩ := HV.out.sl.at_ hlt
        obtain ⟨hd0, hd1, hd2, hd3, hd4, hd5⟩ := lt6 hcl hlt
        have HK := hid (lights_okS HG1.out hlt)
        have hln := whereTo_len (seenP x y) L k
        clear hcl
        cases hp : seenP x y L[k].core
        · have HT := hid (whereTo_no hlt hp)
          go_wp2_with fail
          (refine wp_region_calm (by kernel_rfl) (by kernel_rfl) ?_; (repeat' (first | go_big_quiet_step ((go_at_call 54; first | exact calm_of (s_l24Seen L[k] x y HK.out HG2.out _ hp _) | exact calm_add (s_l24Seen L[k] x y HK.out HG2.out _ hp _))) | (refine wpQuiet_step (fun K hK => ?_); go_simp; go_ite <;> go_simp <;> (first | (refine hK _ ?_; clear hK K) | (apply Exists.intro; refine ⟨fun _ => ?_, hK _ ?_⟩; ((go_at_call 54; first | exact calm_of (s_l24Seen L[k] x y HK.out HG2.out _ hp _) | exact calm_add (s_l24Seen L[k] x y HK.out HG2.out _ hp _))); clear hK K))))); all_goals (refine wpQuiet_nil ?_; intro _ hw'; obtain ⟨gq, hw''⟩ := hw'; subst hw''))
          go_wp2_with fail
          go_roundw
          case rel => exact ⟨k + 1, _, _, by omega, by go_num, vslS (by rw [HT.out]), by rw [HT.out]; exact HO.out.grew (by (repeat (first | with_reducible exact grew_refl _ | with_reducible assumption | with_reducible refine grew_split ?_ | with_reducible refine grew_mk ?_ | with_reducible refine grew_plus ?_ | with_reducible refine grew_alloc ?_ | with_reducible refine grew_drew ?_ | (with_reducible refine grew_set ?_ (by first | exact Nat.le_refl _ | omega | (simp [go_sem]; done) | (simp [go_sem]; omega)))))), by (repeat (first | with_reducible exact grew_refl _ | with_reducible assumption | with_reducible refine grew_split ?_ | with_reducible refine grew_mk ?_ | with_reducible refine grew_plus ?_ | with_reducible refine grew_alloc ?_ | with_reducible refine grew_drew ?_ | (with_reducible refine grew_set ?_ (by first | exact Nat.le_refl _ | omega | (simp [go_sem]; done) | (simp [go_sem]; omega)))))⟩
          case measure => simp [intOf]; omega
        · have HT := hid (whereTo_yes hlt hp)
          go_wp2_with fail
          (refine wp_region_calm (by kernel_rfl) (by kernel_rfl) ?_; (repeat' (first | go_big_quiet_step ((go_at_call 54; first | exact calm_of (s_l24Seen L[k] x y HK.out HG2.out _ hp _) | exact calm_add (s_l24Seen L[k] x y HK.out HG2.out _ hp _))) | (refine wpQuiet_step (fun K hK => ?_); go_simp; go_ite <;> go_simp <;> (first | (refine hK _ ?_; clear hK K) | (apply Exists.intro; refine ⟨fun _ => ?_, hK _ ?_⟩; ((go_at_call 54; first | exact calm_of (s_l24Seen L[k] x y HK.out HG2.out _ hp _) | exact calm_add (s_l24Seen L[k] x y HK.out HG2.out _ hp _))); clear hK K))))); all_goals (refine wpQuiet_nil ?_; intro _ hw'; obtain ⟨gq, hw''⟩ := hw'; subst hw''))
          go_wp2_with (at_builtin; go_loud (refine wpList_app rfl _ _ _ rfl 3 1 8 _ Try.underlying40 int_info rfl (by omega) (by omega) _ _ _ rfl (HO.out.grew (by (repeat (first | with_reducible exact grew_refl _ | with_reducible assumption | with_reducible refine grew_split ?_ | with_reducible refine grew_mk ?_ | with_reducible refine grew_plus ?_ | with_reducible refine grew_alloc ?_ | with_reducible refine grew_drew ?_ | (with_reducible refine grew_set ?_ (by first | exact Nat.le_refl _ | omega | (simp [go_sem]; done) | (simp [go_sem]; omega))))))) (by (repeat (first | with_reducible exact grew_refl _ | with_reducible assumption | with_reducible refine grew_split ?_ | with_reducible refine grew_mk ?_ | with_reducible refine grew_plus ?_ | with_reducible refine grew_alloc ?_ | with_reducible refine grew_drew ?_ | (with_reducible refine grew_set ?_ (by first | exact Nat.le_refl _ | omega | (simp [go_sem]; done) | (simp [go_sem]; omega)))))) (by omega) _ L[k].core.id _ rfl rfl (by intro j u hj; match j, hj with | 0, hj => simp [intRow] at hj; subst hj; simp [Addr.add, go_sem]) (by simp [intRow, Value.oneCell']) ?_); intro A1 c1 g1 HO1)
          go_roundw
          case rel => exact ⟨k + 1, _, _, by omega, by go_num, vslS (by rw [HT.out]; simp), by rw [HT.out]; exact HO1.grew (by (repeat (first | with_reducible exact grew_refl _ | with_reducible assumption | with_reducible refine grew_split ?_ | with_reducible refine grew_mk ?_ | with_reducible refine grew_plus ?_ | with_reducible refine grew_alloc ?_ | with_reducible refine grew_drew ?_ | (with_reducible refine grew_set ?_ (by first | exact Nat.le_refl _ | omega | (simp [go_sem]; done) | (simp [go_sem]; omega)))))), by (repeat (first | with_reducible exact grew_refl _ | with_reducible assumption | with_reducible refine grew_split ?_ | with_reducible refine grew_mk ?_ | with_reducible refine grew_plus ?_ | with_reducible refine grew_alloc ?_ | with_reducible refine grew_drew ?_ | (with_reducible refine grew_set ?_ (by first | exact Nat.le_refl _ | omega | (simp [go_sem]; done) | (simp [go_sem]; omega)))))⟩
          case measure => simp [intOf]; omega
      · obtain rfl : k = L.length := by omega
        have HO2 : Hid (OwnF w.heap.size 3 1 intRow (plus (w.alloc (.cells #[.int .i64 x, .int .i64 y] 37)) g) A' (whereTo (seenP x y) L L.length)) := hid ((HO.out.f intRow_len).less (by first | (simp [go_sem]; done) | (simp [go_sem]; omega) | omega))
        go_wp2
        go_ret2
        exact ⟨⟨A', c', rfl, HO2.out.grew (by (repeat (first | with_reducible exact grew_refl _ | with_reducible assumption | with_reducible refine grew_split ?_ | with_reducible refine grew_mk ?_ | with_reducible refine grew_plus ?_ | with_reducible refine grew_alloc ?_ | with_reducible refine grew_drew ?_ | (with_reducible refine grew_set ?_ (by first | exact Nat.le_refl _ | omega | (simp [go_sem]; done) | (simp [go_sem]; omega))))))⟩, by (repeat (first | with_reducible exact grew_refl _ | with_reducible assumption | with_reducible refine grew_split ?_ | with_reducible refine grew_mk ?_ | with_reducible refine grew_plus ?_ | with_reducible refine grew_alloc ?_ | with_reducible refine grew_drew ?_ | (with_reducible refine grew_set ?_ (by first | exact Nat.le_refl _ | omega | (simp [go_sem]; done) | (simp [go_sem]; omega)))))⟩
end Go.Proofs.Ytjlaidjogladaaa
