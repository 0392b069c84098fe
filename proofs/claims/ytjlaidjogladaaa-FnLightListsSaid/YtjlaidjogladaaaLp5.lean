/- Which pairs of lights look alike: the program's ConfusablePairs. -/
import Derived.Test.YtjlaidjogladaaaLp4
import Derived.Test.YtjlaidjogladaaaLi6
import Derived.Test.YtjlaidjogladaaaAl
import Derived.Deep.CutBlock
import Derived.Deep.RegionHeld3
import Derived.Deep.RegionWith
import Derived.Deep.DrawnRows
import Derived.Deep.DeepCutAuto
namespace Go.Proofs.Ytjlaidjogladaaa
open Go.RowKit

attribute [local go_sem ↓] Go.wp_at_zero Go.wp_at_succ
theorem rows_info : (Try.prog.info? 40).map (fun i => (i.zero, i.size, i.bytes)) = some (some (.slice none 0 0), 1, 24) := by kernel_rfl
/-- What the pairs' function hands back. -/
def PairsPost (B : Nat) (R : List (Int × Int)) (o : Bool) (e : Ending) (w' : World) : Prop :=
  ∃ (A' : Option Addr) (c' : Nat) (M : List PairV), e = .returned (.tuple #[.slice A' M.length c', .bool o]) ∧ M.map PairV.ab = R ∧ POwn B w' A' c' M
theorem pairs_no {L : List LightV} (h : lightsB L = false) : pairsF L = ([], false) := by simp [pairsF, h]
theorem pairs_yes {L : List LightV} (h : lightsB L = true) : pairsF L = (pairsTo L L.length, true) := by simp [pairsF, h]
theorem far_sq {a : Int} (h0 : 0 ≤ a) (h1 : a ≤ 3000) : 0 ≤ a * a ∧ a * a ≤ 9000000 :=
  ⟨Int.mul_nonneg h0 h0, Int.le_trans (Int.mul_le_mul h1 h1 h0 (by omega)) (by omega)⟩
theorem pairsIn_step {L : List LightV} {i m : Nat} (h : i + 1 + m < L.length) {q : Bool} (hq : pairB L[i].core L[i + 1 + m].core = q) : pairsIn L i (m + 1) = pairsIn L i m ++ (if q then [(L[i].core.id, L[i + 1 + m].core.id)] else []) := by
  subst hq
  simp only [pairsIn, h, ↓reduceDIte]
set_option maxHeartbeats 4000000 in
set_option maxRecDepth 100000 in
theorem i_ConfusablePairs (L : List LightV) (A : Option Addr) (c : Nat) (R : List (Int × Int)) (o : Bool) (hR : pairsF L = (R, o)) (w : World) (hA : Lts w A L) (hl : L.length ≤ maxLen) (hcap : L.length ≤ c) :
    Calls Try.prog 8 #[.slice A L.length c] w fun e w' => PairsPost w.heap.size R o e w' ∧ ∃ g, w' = plus w g := by
  have HV := hid hA
  clear hA
  cases hg_ : lightsB L
  · rw [pairs_no hg_] at hR
    injection hR with h1 h2
    subst h1 h2
    go_enter Try.func8, Try.ntmps8
    go_wp2_with (go_at_call 27; refine (i_AreLts L A c _ hg_ _ (HV.out.grew (by (repeat (first | with_reducible exact grew_refl _ | with_reducible assumption | with_reducible refine grew_split ?_ | with_reducible refine grew_mk ?_ | with_reducible refine grew_plus ?_ | with_reducible refine grew_alloc ?_ | with_reducible refine grew_drew ?_ | (with_reducible refine grew_set ?_ (by first | exact Nat.le_refl _ | omega | (simp [go_sem]; done) | (simp [go_sem]; omega))))))) hl hcap).mono ?_; (rintro e w' ⟨rfl, gx, rfl⟩))
    go_ret2
    exact ⟨⟨none, 0, [], rfl, rfl, POwn.nil (Own.nil _ _ _ _ _)⟩, by (repeat (first | with_reducible exact grew_refl _ | with_reducible assumption | with_reducible refine grew_split ?_ | with_reducible refine grew_mk ?_ | with_reducible refine grew_plus ?_ | with_reducible refine grew_alloc ?_ | with_reducible refine grew_drew ?_ | (with_reducible refine grew_set ?_ (by first | exact Nat.le_refl _ | omega | (simp [go_sem]; done) | (simp [go_sem]; omega)))))⟩
  · rw [pairs_yes hg_] at hR
    injection hR with h1 h2
    subst h1 h2
    have HG := hid hg_
    have hl10 := lights_lenS hg_
    clear hg_
    go_enter Try.func8, Try.ntmps8
    go_wp2_with (go_at_call 27; refine (i_AreLts L A c _ HG.out _ (HV.out.grew (by (repeat (first | with_reducible exact grew_refl _ | with_reducible assumption | with_reducible refine grew_split ?_ | with_reducible refine grew_mk ?_ | with_reducible refine grew_plus ?_ | with_reducible refine grew_alloc ?_ | with_reducible refine grew_drew ?_ | (with_reducible refine grew_set ?_ (by first | exact Nat.le_refl _ | omega | (simp [go_sem]; done) | (simp [go_sem]; omega))))))) hl hcap).mono ?_; (rintro e w' ⟨rfl, gx, rfl⟩))
    go_loopw [4, 16] (fun q i wr => ∃ (k : Nat) (A' : Option Addr) (c' : Nat) (M : List PairV), k ≤ L.length ∧ i = .int .i64 k ∧ q = .slice A' M.length c' ∧ M.map PairV.ab = pairsTo L k ∧ POwn w.heap.size wr A' c' M ∧ ∃ g, wr = plus w g) (fun _ i _ => L.length - (intOf i).toNat)
    case atStart => exact ⟨0, _, _, [], Nat.zero_le _, rfl, rfl, rfl, POwn.nil (Own.newIn (o := .cells #[] 40) (by (repeat (first | with_reducible exact grew_refl _ | with_reducible assumption | with_reducible refine grew_split ?_ | with_reducible refine grew_mk ?_ | with_reducible refine grew_plus ?_ | with_reducible refine grew_alloc ?_ | with_reducible refine grew_drew ?_ | (with_reducible refine grew_set ?_ (by first | exact Nat.le_refl _ | omega | (simp [go_sem]; done) | (simp [go_sem]; omega)))))) rfl (by simp [go_sem]) (by simp [go_sem])), by (repeat (first | with_reducible exact grew_refl _ | with_reducible assumption | with_reducible refine grew_split ?_ | with_reducible refine grew_mk ?_ | with_reducible refine grew_plus ?_ | with_reducible refine grew_alloc ?_ | with_reducible refine grew_drew ?_ | (with_reducible refine grew_set ?_ (by first | exact Nat.le_refl _ | omega | (simp [go_sem]; done) | (simp [go_sem]; omega)))))⟩
    case round =>
      obtain ⟨k, A', c', M, hk, rfl, rfl, hM, hO, g, rfl⟩ := hrel
      have HO := hid hO
      have HM := hid hM
      clear hO hM
      by_cases hlt : k < L.length
      · obtain ⟨b, off, rfl, hb, hcl⟩ := HV.out.sl.at_ hlt
        obtain ⟨hd0, hd1, hd2, hd3, hd4, hd5⟩ := lt6 hcl hlt
        have HCL := hid hcl
        clear hcl
        have hi1 : (k : Int) + 1 ≤ (L.length : Int) := by omega
        go_upto_block 2 with fail
        obtain ⟨off2, hoff, hnx⟩ : ∃ off2 : Nat, (if c = k + 1 then some (⟨b, off, none⟩ : Addr) else some ⟨b, off + (k + 1) * 6, none⟩) = some ⟨b, off2, none⟩ ∧ ∀ m (hm : k + 1 + m < L.length) j u, (LightV.row L[k + 1 + m])[j]? = some u → w.cell? ⟨b, off2 + m * 6 + j, none⟩ = some u := by
          by_cases e : c = k + 1
          · exact ⟨off, if_pos e, fun m hm => absurd hm (by omega)⟩
          · refine ⟨off + (k + 1) * 6, if_neg e, fun m hm j u hu => ?_⟩
            have h := HCL.out (k + 1 + m) hm j u hu
            have e2 : off + (k + 1 + m) * 6 + j = off + (k + 1) * 6 + m * 6 + j := by rw [Nat.add_mul]; omega
            rw [← e2]; exact h
        rw [hoff]
        generalize hba : w.heap.size + g.objs.size = ba
        refine opq_wp (fun W1 => POwn w.heap.size W1 A' c' M ∧ Blk W1 ba 55 #[.int .i64 (L[k]).core.id, .string (L[k]).core.nm, .int .i64 (L[k]).core.x, .int .i64 (L[k]).core.y, .int .i64 (L[k]).core.range, .slice (L[k]).A (L[k]).core.ph.length (L[k]).c] ∧ ∃ g, W1 = plus w g) ⟨HO.out.grew (by (repeat (first | with_reducible exact grew_refl _ | with_reducible assumption | with_reducible refine grew_split ?_ | with_reducible refine grew_mk ?_ | with_reducible refine grew_plus ?_ | with_reducible refine grew_alloc ?_ | with_reducible refine grew_drew ?_ | (with_reducible refine grew_set ?_ (by first | exact Nat.le_refl _ | omega | (simp [go_sem]; done) | (simp [go_sem]; omega)))))), blk_new (by subst hba; simp [go_sem]), by (repeat (first | with_reducible exact grew_refl _ | with_reducible assumption | with_reducible refine grew_split ?_ | with_reducible refine grew_mk ?_ | with_reducible refine grew_plus ?_ | with_reducible refine grew_alloc ?_ | with_reducible refine grew_drew ?_ | (with_reducible refine grew_set ?_ (by first | exact Nat.le_refl _ | omega | (simp [go_sem]; done) | (simp [go_sem]; omega)))))⟩ ?_
        have hba2 : w.heap.size ≤ ba := by omega
        clear HO HCL hd0 hd1 hd2 hd3 hd4 hd5 hoff hba
        rintro W1 ⟨hO, hB, hg⟩
        have HX := hid hnx
        have HO := hid hO
        have HB := hid hB
        have HG1 := hid hg
        clear hnx hg hO hB
        go_wp2_with fail
        go_loopw [4, 26] (fun q i W2 => ∃ (m : Nat) (A2 : Option Addr) (c2 : Nat) (N : List PairV), m ≤ L.length - (k + 1) ∧ i = .int .i64 m ∧ q = .slice A2 N.length c2 ∧ N.map PairV.ab = pairsTo L k ++ pairsIn L k m ∧ POwn w.heap.size W2 A2 c2 N ∧ Blk W2 ba 55 #[.int .i64 (L[k]).core.id, .string (L[k]).core.nm, .int .i64 (L[k]).core.x, .int .i64 (L[k]).core.y, .int .i64 (L[k]).core.range, .slice (L[k]).A (L[k]).core.ph.length (L[k]).c] ∧ ∃ g, W2 = plus w g) (fun _ i _ => L.length - (intOf i).toNat)
        case atStart => exact ⟨0, A', c', M, Nat.zero_le _, rfl, rfl, by rw [HM.out]; simp [pairsIn], HO.out, HB.out, HG1.out⟩
        case round =>
          clear HO HB HG1 HM
          obtain ⟨m, A2, c2, N, hm, rfl, rfl, hN, hO, hB, hg⟩ := hrel
          have HO := hid hO
          have HN := hid hN
          have HB := hid hB
          have HW := hid hg
          clear hO hN hB hg
          by_cases hlt2 : m < L.length - (k + 1)
          · have hj : k + 1 + m < L.length := by omega
            have hPa := LightC.pos (lights_okS HG.out hlt)
            have hPb := LightC.pos (lights_okS HG.out hj)
            have AT1 := hid (HV.out.at_ L[k] (List.getElem_mem hlt))
            have AT2 := hid (HV.out.at_ L[k + 1 + m] (List.getElem_mem hj))
            have hpt := pair_ten (lights_okS HG.out hlt) (lights_okS HG.out hj)
            obtain ⟨q, hq⟩ : ∃ q, pairB L[k].core L[k + 1 + m].core = q := ⟨_, rfl⟩
            have HT := hid (pairsIn_step hj hq)
            unfold pairB at hq
            have hx0 := HX.out m hj 0 _ rfl
            have hx1 := HX.out m hj 1 _ rfl
            have hx2 := HX.out m hj 2 _ rfl
            have hx3 := HX.out m hj 3 _ rfl
            have hx4 := HX.out m hj 4 _ rfl
            have hx5 := HX.out m hj 5 _ rfl
            simp only [Nat.add_zero] at hx0
            generalize L[k + 1 + m] = y at hPb AT2 hpt HT hq hx0 hx1 hx2 hx3 hx4 hx5
            generalize L[k] = x at hPa AT1 hpt HT hq HB ⊢
            obtain ⟨a0, a1, a2, a3, a4, a5⟩ := hPa
            obtain ⟨b0, b1, b2, b3, b4, b5⟩ := hPb
            obtain ⟨f0, f1⟩ := far_sq (a := x.core.range + y.core.range) (by omega) (by omega)
            have hl3 : x.core.ph.length ≤ maxLen := AT1.out.len
            have hl4 : y.core.ph.length ≤ maxLen := AT2.out.len
            obtain ⟨gW, rfl⟩ := HW.out
            have hbl := HB.out.lt
            have hc0 := HB.out.cell 0
            have hc2 := HB.out.cell 2
            have hc3 := HB.out.cell 3
            have hc4 := HB.out.cell 4
            have hc5 := HB.out.cell 5
            simp [go_sem] at hc0 hc2 hc3 hc4 hc5 hbl
            have hm1 : (m : Int) < ((L.length - (k + 1) : Nat) : Int) := by omega
            cases hal : alikeB x.core y.core
            · rw [hal] at hpt hq
              rw [Bool.false_and] at hq
              subst hq
              have HPT := hid hpt
              clear hpt hal
              go_wp2_with (go_at_call 35; refine (i_EqualPh x.core.ph y.core.ph _ _ _ _ false HPT.out _ (AT1.out.ph.grew (by (repeat (first | with_reducible exact grew_refl _ | with_reducible assumption | with_reducible refine grew_split ?_ | with_reducible refine grew_mk ?_ | with_reducible refine grew_plus ?_ | with_reducible refine grew_alloc ?_ | with_reducible refine grew_drew ?_ | (with_reducible refine grew_set ?_ (by first | exact Nat.le_refl _ | omega | (simp [go_sem]; done) | (simp [go_sem]; omega))))))) (AT2.out.ph.grew (by (repeat (first | with_reducible exact grew_refl _ | with_reducible assumption | with_reducible refine grew_split ?_ | with_reducible refine grew_mk ?_ | with_reducible refine grew_plus ?_ | with_reducible refine grew_alloc ?_ | with_reducible refine grew_drew ?_ | (with_reducible refine grew_set ?_ (by first | exact Nat.le_refl _ | omega | (simp [go_sem]; done) | (simp [go_sem]; omega))))))) hl3 hl4).mono ?_; (rintro e w' ⟨rfl, gx, rfl⟩))
              go_roundw
              case rel => exact ⟨m + 1, A2, c2, N, by omega, by go_num, rfl, by rw [HT.out, HN.out]; simp, HO.out.grew (by (repeat (first | with_reducible exact grew_refl _ | with_reducible assumption | with_reducible refine grew_split ?_ | with_reducible refine grew_mk ?_ | with_reducible refine grew_plus ?_ | with_reducible refine grew_alloc ?_ | with_reducible refine grew_drew ?_ | (with_reducible refine grew_set ?_ (by first | exact Nat.le_refl _ | omega | (simp [go_sem]; done) | (simp [go_sem]; omega)))))), blk_grew HB.out (by (repeat (first | with_reducible exact grew_refl _ | with_reducible assumption | with_reducible refine grew_split ?_ | with_reducible refine grew_mk ?_ | with_reducible refine grew_plus ?_ | with_reducible refine grew_alloc ?_ | with_reducible refine grew_drew ?_ | (with_reducible refine grew_set ?_ (by first | exact Nat.le_refl _ | omega | (simp [go_sem]; done) | (simp [go_sem]; omega)))))), by (repeat (first | with_reducible exact grew_refl _ | with_reducible assumption | with_reducible refine grew_split ?_ | with_reducible refine grew_mk ?_ | with_reducible refine grew_plus ?_ | with_reducible refine grew_alloc ?_ | with_reducible refine grew_drew ?_ | (with_reducible refine grew_set ?_ (by first | exact Nat.le_refl _ | omega | (simp [go_sem]; done) | (simp [go_sem]; omega)))))⟩
              case measure => simp [intOf]; omega
            · rw [hal] at hpt hq
              rw [Bool.true_and] at hq
              unfold nearB at hq
              have HPT := hid hpt
              clear hpt hal
              by_cases hnr : sqI x.core.x x.core.y y.core.x y.core.y ≤ (x.core.range + y.core.range) * (x.core.range + y.core.range)
              · rw [decide_eq_true hnr] at hq
                subst hq
                have hN100 := pairsTo_len L hl10 k
                have hNin := pairsIn_len L k m
                have hNl : N.length ≤ 200 := by have h := congrArg List.length HN.out; simp at h; omega
                go_upto_region 12 with (first | (go_at_call 35; refine (i_EqualPh x.core.ph y.core.ph _ _ _ _ true HPT.out _ (AT1.out.ph.grew (by (repeat (first | with_reducible exact grew_refl _ | with_reducible assumption | with_reducible refine grew_split ?_ | with_reducible refine grew_mk ?_ | with_reducible refine grew_plus ?_ | with_reducible refine grew_alloc ?_ | with_reducible refine grew_drew ?_ | (with_reducible refine grew_set ?_ (by first | exact Nat.le_refl _ | omega | (simp [go_sem]; done) | (simp [go_sem]; omega))))))) (AT2.out.ph.grew (by (repeat (first | with_reducible exact grew_refl _ | with_reducible assumption | with_reducible refine grew_split ?_ | with_reducible refine grew_mk ?_ | with_reducible refine grew_plus ?_ | with_reducible refine grew_alloc ?_ | with_reducible refine grew_drew ?_ | (with_reducible refine grew_set ?_ (by first | exact Nat.le_refl _ | omega | (simp [go_sem]; done) | (simp [go_sem]; omega))))))) hl3 hl4).mono ?_; (rintro e w' ⟨rfl, gx, rfl⟩)) | (go_at_call 36; refine (i_squareOf _ _ _ _ ⟨a0, a1⟩ ⟨a2, a3⟩ ⟨b0, b1⟩ ⟨b2, b3⟩ _).mono ?_; (rintro e w' ⟨rfl, gx, rfl⟩)))
                generalize hbb : w.heap.size + gW.objs.size = bb
                refine opq_wp (fun W3 => POwn w.heap.size W3 A2 c2 N ∧ Blk W3 ba 55 #[.int .i64 (x).core.id, .string (x).core.nm, .int .i64 (x).core.x, .int .i64 (x).core.y, .int .i64 (x).core.range, .slice (x).A (x).core.ph.length (x).c] ∧ W3.cell? ⟨bb, 0, none⟩ = some (.int .i64 y.core.id) ∧ bb < W3.heap.size ∧ ∃ g, W3 = plus w g) ⟨HO.out.grew (by (repeat (first | with_reducible exact grew_refl _ | with_reducible assumption | with_reducible refine grew_split ?_ | with_reducible refine grew_mk ?_ | with_reducible refine grew_plus ?_ | with_reducible refine grew_alloc ?_ | with_reducible refine grew_drew ?_ | (with_reducible refine grew_set ?_ (by first | exact Nat.le_refl _ | omega | (simp [go_sem]; done) | (simp [go_sem]; omega)))))), blk_grew HB.out (by (repeat (first | with_reducible exact grew_refl _ | with_reducible assumption | with_reducible refine grew_split ?_ | with_reducible refine grew_mk ?_ | with_reducible refine grew_plus ?_ | with_reducible refine grew_alloc ?_ | with_reducible refine grew_drew ?_ | (with_reducible refine grew_set ?_ (by first | exact Nat.le_refl _ | omega | (simp [go_sem]; done) | (simp [go_sem]; omega)))))), by subst hbb; simp [go_sem], by subst hbb; first | (simp [go_sem]; done) | (simp [go_sem]; omega), by (repeat (first | with_reducible exact grew_refl _ | with_reducible assumption | with_reducible refine grew_split ?_ | with_reducible refine grew_mk ?_ | with_reducible refine grew_plus ?_ | with_reducible refine grew_alloc ?_ | with_reducible refine grew_drew ?_ | (with_reducible refine grew_set ?_ (by first | exact Nat.le_refl _ | omega | (simp [go_sem]; done) | (simp [go_sem]; omega)))))⟩ ?_
                clear HB HO hc0 hc2 hc3 hc4 hc5 hx0 hx1 hx2 hx3 hx4 hx5 hbl HW hbb
                rintro W3 ⟨hO, hB, hy0, hbl2, hg⟩
                have hbl := hB.lt
                have hc0 := hB.cell 0
                simp [go_sem] at hc0
                have HO := hid hO
                have HB := hid hB
                have HW := hid hg
                have hW3 := (below_of_grew hg).size
                have hwz : w.heap.size ≤ ((W3.alloc (.cells #[.int .i64 x.core.id, .int .i64 y.core.id] 3)).alloc (.cells #[.slice (some ⟨W3.heap.size, 0, none⟩) 2 2] 40)).heap.size := by simp [go_sem]; omega
                clear hO hB hg
                go_wp2_with (at_builtin; refine wpList_appB (B := w.heap.size) rfl _ _ _ rfl 40 1 24 _ Try.underlying24 rows_info rfl (by omega) (by omega) A2 c2 N N.length rfl rfl (HO.out.own.grew (by (repeat (first | with_reducible exact grew_refl _ | with_reducible assumption | with_reducible refine grew_split ?_ | with_reducible refine grew_mk ?_ | with_reducible refine grew_plus ?_ | with_reducible refine grew_alloc ?_ | with_reducible refine grew_drew ?_ | (with_reducible refine grew_set ?_ (by first | exact Nat.le_refl _ | omega | (simp [go_sem]; done) | (simp [go_sem]; omega))))))) hwz (by omega) _ (⟨x.core.id, y.core.id, W3.heap.size, 2⟩ : PairV) _ rfl rfl (by intro j u hj; match j, hj with | 0, hj => simp [PairV.row] at hj; subst hj; simp [Addr.add, go_sem]) (PairV.one _) ?_; intro A5 c5 w5 hO5 hg5 hat5; have hP5 := HO.out.app (by (repeat (first | with_reducible exact grew_refl _ | with_reducible assumption | with_reducible refine grew_split ?_ | with_reducible refine grew_mk ?_ | with_reducible refine grew_plus ?_ | with_reducible refine grew_alloc ?_ | with_reducible refine grew_drew ?_ | (with_reducible refine grew_set ?_ (by first | exact Nat.le_refl _ | omega | (simp [go_sem]; done) | (simp [go_sem]; omega)))))) (⟨x.core.id, y.core.id, W3.heap.size, 2⟩ : PairV) (row_new (by (repeat (first | with_reducible exact grew_refl _ | with_reducible assumption | with_reducible refine grew_split ?_ | with_reducible refine grew_mk ?_ | with_reducible refine grew_plus ?_ | with_reducible refine grew_alloc ?_ | with_reducible refine grew_drew ?_ | (with_reducible refine grew_set ?_ (by first | exact Nat.le_refl _ | omega | (simp [go_sem]; done) | (simp [go_sem]; omega)))))) rfl hW3) (Nat.le_refl _) (by first | (simp [go_sem]; done) | (simp [go_sem]; omega)) hO5 hg5 hat5; have hB5 := blk_keptD (blk_grew HB.out (by (repeat (first | with_reducible exact grew_refl _ | with_reducible assumption | with_reducible refine grew_split ?_ | with_reducible refine grew_mk ?_ | with_reducible refine grew_plus ?_ | with_reducible refine grew_alloc ?_ | with_reducible refine grew_drew ?_ | (with_reducible refine grew_set ?_ (by first | exact Nat.le_refl _ | omega | (simp [go_sem]; done) | (simp [go_sem]; omega))))))) (HO.out.own.grew (by (repeat (first | with_reducible exact grew_refl _ | with_reducible assumption | with_reducible refine grew_split ?_ | with_reducible refine grew_mk ?_ | with_reducible refine grew_plus ?_ | with_reducible refine grew_alloc ?_ | with_reducible refine grew_drew ?_ | (with_reducible refine grew_set ?_ (by first | exact Nat.le_refl _ | omega | (simp [go_sem]; done) | (simp [go_sem]; omega))))))) (by decide) hg5; have HP5 := hid hP5; have HB5 := hid hB5; have HG5 := hid hg5; clear hO5 hg5 hat5 hP5 hB5)
                go_roundw
                case rel =>
                  have hg := HW.out
                  have hg5 := HG5.out
                  exact ⟨m + 1, A5, c5, N ++ [⟨x.core.id, y.core.id, W3.heap.size, 2⟩], by omega, by go_num, by simp, by rw [HT.out, ab_app, HN.out]; simp, HP5.out, HB5.out, grew_own (w0 := w) (by (repeat (first | with_reducible exact grew_refl _ | with_reducible assumption | with_reducible refine grew_split ?_ | with_reducible refine grew_mk ?_ | with_reducible refine grew_plus ?_ | with_reducible refine grew_alloc ?_ | with_reducible refine grew_drew ?_ | (with_reducible refine grew_set ?_ (by first | exact Nat.le_refl _ | omega | (simp [go_sem]; done) | (simp [go_sem]; omega)))))) hg5 (fun a ha => (HO.out.own.ne a ha).1)⟩
                case measure => simp [intOf]; omega
              · rw [decide_eq_false hnr] at hq
                subst hq
                go_wp2_with (first | (go_at_call 35; refine (i_EqualPh x.core.ph y.core.ph _ _ _ _ true HPT.out _ (AT1.out.ph.grew (by (repeat (first | with_reducible exact grew_refl _ | with_reducible assumption | with_reducible refine grew_split ?_ | with_reducible refine grew_mk ?_ | with_reducible refine grew_plus ?_ | with_reducible refine grew_alloc ?_ | with_reducible refine grew_drew ?_ | (with_reducible refine grew_set ?_ (by first | exact Nat.le_refl _ | omega | (simp [go_sem]; done) | (simp [go_sem]; omega))))))) (AT2.out.ph.grew (by (repeat (first | with_reducible exact grew_refl _ | with_reducible assumption | with_reducible refine grew_split ?_ | with_reducible refine grew_mk ?_ | with_reducible refine grew_plus ?_ | with_reducible refine grew_alloc ?_ | with_reducible refine grew_drew ?_ | (with_reducible refine grew_set ?_ (by first | exact Nat.le_refl _ | omega | (simp [go_sem]; done) | (simp [go_sem]; omega))))))) hl3 hl4).mono ?_; (rintro e w' ⟨rfl, gx, rfl⟩)) | (go_at_call 36; refine (i_squareOf _ _ _ _ ⟨a0, a1⟩ ⟨a2, a3⟩ ⟨b0, b1⟩ ⟨b2, b3⟩ _).mono ?_; (rintro e w' ⟨rfl, gx, rfl⟩)))
                go_roundw
                case rel => exact ⟨m + 1, A2, c2, N, by omega, by go_num, rfl, by rw [HT.out, HN.out]; simp, HO.out.grew (by (repeat (first | with_reducible exact grew_refl _ | with_reducible assumption | with_reducible refine grew_split ?_ | with_reducible refine grew_mk ?_ | with_reducible refine grew_plus ?_ | with_reducible refine grew_alloc ?_ | with_reducible refine grew_drew ?_ | (with_reducible refine grew_set ?_ (by first | exact Nat.le_refl _ | omega | (simp [go_sem]; done) | (simp [go_sem]; omega)))))), blk_grew HB.out (by (repeat (first | with_reducible exact grew_refl _ | with_reducible assumption | with_reducible refine grew_split ?_ | with_reducible refine grew_mk ?_ | with_reducible refine grew_plus ?_ | with_reducible refine grew_alloc ?_ | with_reducible refine grew_drew ?_ | (with_reducible refine grew_set ?_ (by first | exact Nat.le_refl _ | omega | (simp [go_sem]; done) | (simp [go_sem]; omega)))))), by (repeat (first | with_reducible exact grew_refl _ | with_reducible assumption | with_reducible refine grew_split ?_ | with_reducible refine grew_mk ?_ | with_reducible refine grew_plus ?_ | with_reducible refine grew_alloc ?_ | with_reducible refine grew_drew ?_ | (with_reducible refine grew_set ?_ (by first | exact Nat.le_refl _ | omega | (simp [go_sem]; done) | (simp [go_sem]; omega)))))⟩
                case measure => simp [intOf]; omega
          · obtain rfl : m = L.length - (k + 1) := by omega
            go_wp2_with fail
            go_roundw
            case rel => exact ⟨k + 1, A2, c2, N, by omega, by go_num, rfl, HN.out, HO.out, HW.out⟩
            case measure => simp [intOf]; omega
      · obtain rfl : k = L.length := by omega
        go_wp2_with fail
        go_ret2
        exact ⟨⟨A', c', M, rfl, HM.out, HO.out.grew (by (repeat (first | with_reducible exact grew_refl _ | with_reducible assumption | with_reducible refine grew_split ?_ | with_reducible refine grew_mk ?_ | with_reducible refine grew_plus ?_ | with_reducible refine grew_alloc ?_ | with_reducible refine grew_drew ?_ | (with_reducible refine grew_set ?_ (by first | exact Nat.le_refl _ | omega | (simp [go_sem]; done) | (simp [go_sem]; omega))))))⟩, by (repeat (first | with_reducible exact grew_refl _ | with_reducible assumption | with_reducible refine grew_split ?_ | with_reducible refine grew_mk ?_ | with_reducible refine grew_plus ?_ | with_reducible refine grew_alloc ?_ | with_reducible refine grew_drew ?_ | (with_reducible refine grew_set ?_ (by first | exact Nat.le_refl _ | omega | (simp [go_sem]; done) | (simp [go_sem]; omega)))))⟩
end Go.Proofs.Ytjlaidjogladaaa
