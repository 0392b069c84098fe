/- The law FnLightLists: lights that are lit are seen, at a dark moment nothing is lit anywhere, and pairs that are confusable have one period. No condition. -/
import Derived.Test.YtjlaidjogladaaaRows
import Derived.Test.YtjlaidjogladaaaFl2
import Derived.Test.YtjlaidjogladaaaVl
import Derived.Test.YtjlaidjogladaaaLx
import Derived.Test.YtjlaidjogladaaaLp6
import Derived.Test.YtjlaidjogladaaaLi7
import Derived.Test.YtjlaidjogladaaaLk5
import Derived.Test.YtjlaidjogladaaaAl
import Derived.Deep.CutBlock
import Derived.Deep.DeepCutAuto
namespace Go.Proofs.Ytjlaidjogladaaa
open Go.ChangeShapes Go.WideShapes Go.ChangeAt Go.RowKit Go.Deep Go.Joins
open Go.ChangeMaps (open_string shut_string)

theorem row2 {w : World} {g : Nat} {x y : Int} (h : Sl w 1 intRow (some ⟨g, 0, none⟩) [x, y]) : g < w.heap.size ∧ w.cell? ⟨g, 0, none⟩ = some (.int .i64 x) ∧ w.cell? ⟨g, 1, none⟩ = some (.int .i64 y) := by
  rcases h with h | ⟨b, off, hA, hlt, hc⟩
  · cases h
  · injection hA with hA
    injection hA with e1 e2
    subst e1 e2
    refine ⟨hlt, ?_, ?_⟩
    · have := hc 0 (by simp) 0 _ rfl
      simpa using this
    · have := hc 1 (by simp) 0 _ rfl
      simpa using this
theorem pairsF_snd (L : List LightV) : (pairsF L).2 = lightsB L := by
  unfold pairsF
  cases h : lightsB L <;> simp
set_option maxHeartbeats 8000000 in
set_option maxRecDepth 100000 in
theorem l_FnLightLists (A : Option Addr) (c : Nat) (bs : List Int) (w : World) (hA : Sl w 1 byteRow A bs) (hb : ∀ x ∈ bs, 0 ≤ x ∧ x ≤ 255) (_hl : bs.length ≤ maxLen) :
    Calls Try.prog 4 #[.slice A bs.length c] w fun e' w' => e' = .returned (.bool true) ∧ ∃ g, w' = plus w g := by
  have HA := hid hA
  have HB := hid hb
  clear hA hb
  by_cases hbig : (65536 : Int) < (bs.length : Int)
  · go_enter Try.func4, Try.ntmps4
    go_wp2_with (go_at_call 14; refine (l_rBig _ _ _ _).mono ?_; (rintro e w' ⟨rfl, rfl⟩))
    go_ret
    exact ⟨rfl, by (repeat (first | with_reducible exact grew_refl _ | with_reducible assumption | with_reducible refine grew_split ?_ | with_reducible refine grew_mk ?_ | with_reducible refine grew_plus ?_ | with_reducible refine grew_alloc ?_ | with_reducible refine grew_drew ?_ | (with_reducible refine grew_set ?_ (by first | exact Nat.le_refl _ | omega | (simp [go_sem]; done) | (simp [go_sem]; omega)))))⟩
  have HC := hid (show Code0 w A bs from ⟨HA.out, HB.out, by omega⟩)
  clear HA HB
  go_enter Try.func4, Try.ntmps4
  go_wp2_with (go_at_call 14; refine (l_rBig _ _ _ _).mono ?_; (rintro e w' ⟨rfl, rfl⟩))
  refine (s_DrawLitFrom A c bs _ HC.out).mono ?_
  rintro e W1 ⟨⟨B, d, L, x, y, m, rfl, hl12, hld, hO, m0, m1⟩, hg⟩
  have HG := hid hg
  have HS := hid hO.lts
  clear hO hg
  obtain ⟨R, o, hR⟩ : ∃ R o, whereF (litP x y m) (spotB x y && inB m 0 1000000) L = (R, o) := ⟨_, _, rfl⟩
  obtain ⟨S, q, hS⟩ : ∃ S q, whereF (seenP x y) (spotB x y) L = (S, q) := ⟨_, _, rfl⟩
  have HLS := hid (lit_seen hR hS)
  have hRl := whereF_len hR
  have hSl := whereF_len hS
  have HR := hid hR
  have HS2 := hid hS
  have e1 : (o != o) = false := by simp
  have e2 : (q != q) = false := by simp
  clear hR hS
  go_wp2_with fail
  refine (i_LitFrom L B d x y m R o HR.out _ (HS.out.grew (by (repeat (first | with_reducible exact grew_refl _ | with_reducible assumption | with_reducible refine grew_split ?_ | with_reducible refine grew_mk ?_ | with_reducible refine grew_plus ?_ | with_reducible refine grew_alloc ?_ | with_reducible refine grew_drew ?_ | (with_reducible refine grew_set ?_ (by first | exact Nat.le_refl _ | omega | (simp [go_sem]; done) | (simp [go_sem]; omega))))))) (by unfold maxLen; omega) hld).mono ?_
  (rintro e w' ⟨⟨A1, c1, rfl, hO1⟩, g1, rfl⟩; (try rw [plus_plus] at hO1); have O1 := hid (OwnF.sl hO1); clear hO1)
  go_wp2_with fail
  refine (s_LitFrom L B d x y m R o HR.out _ (HS.out.grew (by (repeat (first | with_reducible exact grew_refl _ | with_reducible assumption | with_reducible refine grew_split ?_ | with_reducible refine grew_mk ?_ | with_reducible refine grew_plus ?_ | with_reducible refine grew_alloc ?_ | with_reducible refine grew_drew ?_ | (with_reducible refine grew_set ?_ (by first | exact Nat.le_refl _ | omega | (simp [go_sem]; done) | (simp [go_sem]; omega))))))) (by unfold maxLen; omega)).mono ?_
  (rintro e w' ⟨⟨A2, c2, rfl, hO2⟩, g2, rfl⟩; (try rw [plus_plus] at hO2); have O2 := hid (OwnF.sl hO2); clear hO2)
  go_upto_region 8 with (go_at_call 18; refine (l_rInts R A1 A2 c1 c2 _ (O1.out.grew (by (repeat (first | with_reducible exact grew_refl _ | with_reducible assumption | with_reducible refine grew_split ?_ | with_reducible refine grew_mk ?_ | with_reducible refine grew_plus ?_ | with_reducible refine grew_alloc ?_ | with_reducible refine grew_drew ?_ | (with_reducible refine grew_set ?_ (by first | exact Nat.le_refl _ | omega | (simp [go_sem]; done) | (simp [go_sem]; omega))))))) (O2.out.grew (by (repeat (first | with_reducible exact grew_refl _ | with_reducible assumption | with_reducible refine grew_split ?_ | with_reducible refine grew_mk ?_ | with_reducible refine grew_plus ?_ | with_reducible refine grew_alloc ?_ | with_reducible refine grew_drew ?_ | (with_reducible refine grew_set ?_ (by first | exact Nat.le_refl _ | omega | (simp [go_sem]; done) | (simp [go_sem]; omega))))))) (by unfold maxLen; omega)).mono ?_; (rintro e w' ⟨rfl, gx, rfl⟩))
  go_wp2_with fail
  refine (i_SeenFrom L B d x y S q HS2.out _ (HS.out.grew (by (repeat (first | with_reducible exact grew_refl _ | with_reducible assumption | with_reducible refine grew_split ?_ | with_reducible refine grew_mk ?_ | with_reducible refine grew_plus ?_ | with_reducible refine grew_alloc ?_ | with_reducible refine grew_drew ?_ | (with_reducible refine grew_set ?_ (by first | exact Nat.le_refl _ | omega | (simp [go_sem]; done) | (simp [go_sem]; omega))))))) (by unfold maxLen; omega) hld).mono ?_
  (rintro e w' ⟨⟨A3, c3, rfl, hO3⟩, g3, rfl⟩; (try rw [plus_plus] at hO3); have O3 := hid (OwnF.sl hO3); clear hO3)
  go_wp2_with fail
  refine (s_SeenFrom L B d x y S q HS2.out _ (HS.out.grew (by (repeat (first | with_reducible exact grew_refl _ | with_reducible assumption | with_reducible refine grew_split ?_ | with_reducible refine grew_mk ?_ | with_reducible refine grew_plus ?_ | with_reducible refine grew_alloc ?_ | with_reducible refine grew_drew ?_ | (with_reducible refine grew_set ?_ (by first | exact Nat.le_refl _ | omega | (simp [go_sem]; done) | (simp [go_sem]; omega))))))) (by unfold maxLen; omega)).mono ?_
  (rintro e w' ⟨⟨A4, c4, rfl, hO4⟩, g4, rfl⟩; (try rw [plus_plus] at hO4); have O4 := hid (OwnF.sl hO4); clear hO4)
  go_upto_region 12 with (go_at_call 18; refine (l_rInts S A3 A4 c3 c4 _ (O3.out.grew (by (repeat (first | with_reducible exact grew_refl _ | with_reducible assumption | with_reducible refine grew_split ?_ | with_reducible refine grew_mk ?_ | with_reducible refine grew_plus ?_ | with_reducible refine grew_alloc ?_ | with_reducible refine grew_drew ?_ | (with_reducible refine grew_set ?_ (by first | exact Nat.le_refl _ | omega | (simp [go_sem]; done) | (simp [go_sem]; omega))))))) (O4.out.grew (by (repeat (first | with_reducible exact grew_refl _ | with_reducible assumption | with_reducible refine grew_split ?_ | with_reducible refine grew_mk ?_ | with_reducible refine grew_plus ?_ | with_reducible refine grew_alloc ?_ | with_reducible refine grew_drew ?_ | (with_reducible refine grew_set ?_ (by first | exact Nat.le_refl _ | omega | (simp [go_sem]; done) | (simp [go_sem]; omega))))))) (by unfold maxLen; omega)).mono ?_; (rintro e w' ⟨rfl, gx, rfl⟩))
  refine opq_wp (fun W2 => Sl W2 1 intRow A1 R ∧ Sl W2 1 intRow A3 S ∧ ∃ g, W2 = plus w g) ⟨O1.out.grew (by (repeat (first | with_reducible exact grew_refl _ | with_reducible assumption | with_reducible refine grew_split ?_ | with_reducible refine grew_mk ?_ | with_reducible refine grew_plus ?_ | with_reducible refine grew_alloc ?_ | with_reducible refine grew_drew ?_ | (with_reducible refine grew_set ?_ (by first | exact Nat.le_refl _ | omega | (simp [go_sem]; done) | (simp [go_sem]; omega)))))), O3.out.grew (by (repeat (first | with_reducible exact grew_refl _ | with_reducible assumption | with_reducible refine grew_split ?_ | with_reducible refine grew_mk ?_ | with_reducible refine grew_plus ?_ | with_reducible refine grew_alloc ?_ | with_reducible refine grew_drew ?_ | (with_reducible refine grew_set ?_ (by first | exact Nat.le_refl _ | omega | (simp [go_sem]; done) | (simp [go_sem]; omega)))))), by have hg := HG.out; (repeat (first | with_reducible exact grew_refl _ | with_reducible assumption | with_reducible refine grew_split ?_ | with_reducible refine grew_mk ?_ | with_reducible refine grew_plus ?_ | with_reducible refine grew_alloc ?_ | with_reducible refine grew_drew ?_ | (with_reducible refine grew_set ?_ (by first | exact Nat.le_refl _ | omega | (simp [go_sem]; done) | (simp [go_sem]; omega)))))⟩ ?_
  clear HS O1 O2 O3 O4 HG HR HS2 e1 e2 m0 m1 hld hl12
  rintro W2 ⟨h1, h3, hg⟩
  have O1 := hid h1
  have O3 := hid h3
  have HG2 := hid hg
  clear h1 h3 hg
  go_upto_block 0 with fail
  go_cut [14] (fun _ wx => ∃ g, wx = plus W2 g)
  case first =>
    as_aux_lemma =>
      go_wp2_with fail
      go_loopw [14] (fun i wr => ∃ k : Nat, k ≤ R.length ∧ i = .int .i64 k ∧ (∃ g, wr = plus W2 g)) (fun i _ => R.length - (intOf i).toNat)
      case atStart => exact ⟨0, Nat.zero_le _, rfl, _, plus_refl _⟩
      case round =>
        obtain ⟨k, hk, rfl, g, rfl⟩ := hrel
        by_cases hlt : k < R.length
        · obtain ⟨b, off, rfl, hb, hc⟩ := O1.out.at_ hlt
          have hc0 := icells hc hlt
          have hz := HLS.out R[k] (List.getElem_mem hlt)
          obtain ⟨rfl, hz⟩ := hz
          have HZ := hid hz
          clear hc hz
          go_wp2_with (go_at_call 21; refine (l_rHas S R[k] HZ.out _ _ _ (O3.out.grew (by (repeat (first | with_reducible exact grew_refl _ | with_reducible assumption | with_reducible refine grew_split ?_ | with_reducible refine grew_mk ?_ | with_reducible refine grew_plus ?_ | with_reducible refine grew_alloc ?_ | with_reducible refine grew_drew ?_ | (with_reducible refine grew_set ?_ (by first | exact Nat.le_refl _ | omega | (simp [go_sem]; done) | (simp [go_sem]; omega))))))) (by omega)).mono ?_; (rintro e w' ⟨rfl, gx, rfl⟩))
          go_roundw
          case rel => exact ⟨k + 1, by omega, by go_num, by (repeat (first | with_reducible exact grew_refl _ | with_reducible assumption | with_reducible refine grew_split ?_ | with_reducible refine grew_mk ?_ | with_reducible refine grew_plus ?_ | with_reducible refine grew_alloc ?_ | with_reducible refine grew_drew ?_ | (with_reducible refine grew_set ?_ (by first | exact Nat.le_refl _ | omega | (simp [go_sem]; done) | (simp [go_sem]; omega)))))⟩
          case measure => simp [intOf]; omega
        · go_wp2_with fail
          go_meet
          exact ⟨_, rfl⟩
  case rest =>
    obtain ⟨g3', rfl⟩ := hcut
    go_upto_region 17 with fail
    refine opq_wp (fun W3 => Code0 W3 A bs ∧ ∃ g, W3 = plus w g) ⟨HC.out.grewL (by have hg := HG2.out; (repeat (first | with_reducible exact grew_refl _ | with_reducible assumption | with_reducible refine grew_split ?_ | with_reducible refine grew_mk ?_ | with_reducible refine grew_plus ?_ | with_reducible refine grew_alloc ?_ | with_reducible refine grew_drew ?_ | (with_reducible refine grew_set ?_ (by first | exact Nat.le_refl _ | omega | (simp [go_sem]; done) | (simp [go_sem]; omega)))))), by have hg := HG2.out; (repeat (first | with_reducible exact grew_refl _ | with_reducible assumption | with_reducible refine grew_split ?_ | with_reducible refine grew_mk ?_ | with_reducible refine grew_plus ?_ | with_reducible refine grew_alloc ?_ | with_reducible refine grew_drew ?_ | (with_reducible refine grew_set ?_ (by first | exact Nat.le_refl _ | omega | (simp [go_sem]; done) | (simp [go_sem]; omega)))))⟩ ?_
    clear O1 O3 HG2 HLS hRl hSl
    rintro W3 ⟨hC3, hg3⟩
    have HC3 := hid hC3
    have HG3 := hid hg3
    clear hC3 hg3
    go_wp2_with fail
    refine (s_DrawAllDarkAt A c bs _ HC3.out).mono ?_
    rintro e W4 ⟨⟨B, d, L, fr, rfl, hl12, hld, hO, f0, f1⟩, hg⟩
    have HG4 := hid (grew_two' HG3.out hg)
    have HS := hid hO.lts
    clear hO hg HG3
    obtain ⟨dk, td, hd⟩ : ∃ dk td, darkF L fr = (dk, td) := ⟨_, _, rfl⟩
    have HD := hid hd
    have e1 : (dk != dk) = false := by simp
    have e2 : (td != td) = false := by simp
    have HDL := hid (show td = true → fr ≤ dk ∧ 0 ≤ dk ∧ dk ≤ 1000000 ∧ whereF (litP 0 0 dk) (spotB 0 0 && inB dk 0 1000000) L = ([], true) from fun e => dark_law (by rw [hd, e]) 0 0 (by decide))
    clear hd
    go_wp2_with fail
    refine (i_AllDarkAt L B d fr _ (HS.out.grew (by (repeat (first | with_reducible exact grew_refl _ | with_reducible assumption | with_reducible refine grew_split ?_ | with_reducible refine grew_mk ?_ | with_reducible refine grew_plus ?_ | with_reducible refine grew_alloc ?_ | with_reducible refine grew_drew ?_ | (with_reducible refine grew_set ?_ (by first | exact Nat.le_refl _ | omega | (simp [go_sem]; done) | (simp [go_sem]; omega))))))) (by unfold maxLen; omega) hld).mono ?_
    rw [HD.out]
    (rintro e w' ⟨rfl, gx, rfl⟩)
    go_wp2_with fail
    refine (s_AllDarkAt L B d fr _ (HS.out.grew (by (repeat (first | with_reducible exact grew_refl _ | with_reducible assumption | with_reducible refine grew_split ?_ | with_reducible refine grew_mk ?_ | with_reducible refine grew_plus ?_ | with_reducible refine grew_alloc ?_ | with_reducible refine grew_drew ?_ | (with_reducible refine grew_set ?_ (by first | exact Nat.le_refl _ | omega | (simp [go_sem]; done) | (simp [go_sem]; omega))))))) (by unfold maxLen; omega)).mono ?_
    rw [HD.out]
    (rintro e w' ⟨rfl, gx, rfl⟩)
    go_upto_if 135 with fail
    go_cut [21, 22] (fun _ _ wx => ∃ g, wx = plus W4 g)
    case first =>
      as_aux_lemma =>
        cases td
        · go_wp2_with fail
          go_meet
          exact (by (repeat (first | with_reducible exact grew_refl _ | with_reducible assumption | with_reducible refine grew_split ?_ | with_reducible refine grew_mk ?_ | with_reducible refine grew_plus ?_ | with_reducible refine grew_alloc ?_ | with_reducible refine grew_drew ?_ | (with_reducible refine grew_set ?_ (by first | exact Nat.le_refl _ | omega | (simp [go_sem]; done) | (simp [go_sem]; omega))))))
        · obtain ⟨k1, k2, k3, k4⟩ := HDL.out rfl
          have K4 := hid k4
          clear k4
          go_wp2_with fail
          refine (i_LitFrom L B d 0 0 dk [] true K4.out _ (HS.out.grew (by (repeat (first | with_reducible exact grew_refl _ | with_reducible assumption | with_reducible refine grew_split ?_ | with_reducible refine grew_mk ?_ | with_reducible refine grew_plus ?_ | with_reducible refine grew_alloc ?_ | with_reducible refine grew_drew ?_ | (with_reducible refine grew_set ?_ (by first | exact Nat.le_refl _ | omega | (simp [go_sem]; done) | (simp [go_sem]; omega))))))) (by unfold maxLen; omega) hld).mono ?_
          (rintro e w' ⟨⟨A1, c1, rfl, hO1⟩, g1, rfl⟩; (try rw [plus_plus] at hO1); have O1 := hid (OwnF.sl hO1); clear hO1)
          go_wp2_with fail
          go_meet
          exact (by (repeat (first | with_reducible exact grew_refl _ | with_reducible assumption | with_reducible refine grew_split ?_ | with_reducible refine grew_mk ?_ | with_reducible refine grew_plus ?_ | with_reducible refine grew_alloc ?_ | with_reducible refine grew_drew ?_ | (with_reducible refine grew_set ?_ (by first | exact Nat.le_refl _ | omega | (simp [go_sem]; done) | (simp [go_sem]; omega))))))
    case rest =>
      obtain ⟨g4', rfl⟩ := hcut
      go_upto_region 26 with fail
      refine opq_wp (fun W5 => Code0 W5 A bs ∧ ∃ g, W5 = plus w g) ⟨HC.out.grewL (by have hg := HG4.out; (repeat (first | with_reducible exact grew_refl _ | with_reducible assumption | with_reducible refine grew_split ?_ | with_reducible refine grew_mk ?_ | with_reducible refine grew_plus ?_ | with_reducible refine grew_alloc ?_ | with_reducible refine grew_drew ?_ | (with_reducible refine grew_set ?_ (by first | exact Nat.le_refl _ | omega | (simp [go_sem]; done) | (simp [go_sem]; omega)))))), by have hg := HG4.out; (repeat (first | with_reducible exact grew_refl _ | with_reducible assumption | with_reducible refine grew_split ?_ | with_reducible refine grew_mk ?_ | with_reducible refine grew_plus ?_ | with_reducible refine grew_alloc ?_ | with_reducible refine grew_drew ?_ | (with_reducible refine grew_set ?_ (by first | exact Nat.le_refl _ | omega | (simp [go_sem]; done) | (simp [go_sem]; omega)))))⟩ ?_
      clear HC3 HG4 HS HD HDL e1 e2 f0 f1 hl12 hld
      rintro W5 ⟨hC5, hg5⟩
      have HC5 := hid hC5
      have HG5 := hid hg5
      clear hC5 hg5
      go_wp2_with fail
      refine (s_DrawConfusablePairs A c bs _ HC5.out).mono ?_
      rintro e W6 ⟨⟨B, d, U, rfl, hl12, hld, hO⟩, hg⟩
      have HG6 := hid (grew_two' HG5.out hg)
      have HS := hid hO.lts
      clear hO hg HG5
      obtain ⟨R, o, hR⟩ : ∃ R o, pairsF U = (R, o) := ⟨_, _, rfl⟩
      have hRl := pairsF_len U
      have hsn := pairsF_snd U
      rw [hR] at hRl hsn
      simp only at hRl hsn
      have HSN := hid hsn.symm
      have HPL := hid (fun (z : Int × Int) (hz : z ∈ R) (i j : Nat) (hi : i < U.length) (hj : j < U.length) (h1 : U[i].core.id = z.1) (h2 : U[j].core.id = z.2) => pairs_law hR hz hi hj h1 h2)
      have HR := hid hR
      have e1 : (o != o) = false := by simp
      clear hR hsn
      go_wp2_with fail
      refine (i_ConfusablePairs U B d R o HR.out _ (HS.out.grew (by (repeat (first | with_reducible exact grew_refl _ | with_reducible assumption | with_reducible refine grew_split ?_ | with_reducible refine grew_mk ?_ | with_reducible refine grew_plus ?_ | with_reducible refine grew_alloc ?_ | with_reducible refine grew_drew ?_ | (with_reducible refine grew_set ?_ (by first | exact Nat.le_refl _ | omega | (simp [go_sem]; done) | (simp [go_sem]; omega))))))) (by unfold maxLen; omega) hld).mono ?_
      rintro e w' ⟨⟨A1, c1, N1, rfl, hQ1, hO1⟩, g1, rfl⟩
      (try rw [plus_plus] at hO1)
      have hn1 : N1.length ≤ 100 := by have := congrArg List.length hQ1; simp at this; omega
      have Q1 := hid hQ1
      have O1 := hid hO1.mark.read
      clear hO1 hQ1
      go_wp2_with fail
      refine (s_ConfusablePairs U B d R o HR.out _ (HS.out.grew (by (repeat (first | with_reducible exact grew_refl _ | with_reducible assumption | with_reducible refine grew_split ?_ | with_reducible refine grew_mk ?_ | with_reducible refine grew_plus ?_ | with_reducible refine grew_alloc ?_ | with_reducible refine grew_drew ?_ | (with_reducible refine grew_set ?_ (by first | exact Nat.le_refl _ | omega | (simp [go_sem]; done) | (simp [go_sem]; omega))))))) (by unfold maxLen; omega)).mono ?_
      rintro e w' ⟨⟨A2, c2, N2, rfl, hQ2, hO2⟩, g2, rfl⟩
      (try rw [plus_plus] at hO2)
      have Q2 := hid hQ2
      have O2 := hid hO2.mark.read
      clear hO2 hQ2
      go_upto_region 31 with (first | (go_at_call 26; refine (l_rTable N1 N2 A1 A2 c1 c2 _ (Q1.out.trans Q2.out.symm) (O1.out.grew (by (repeat (first | with_reducible exact grew_refl _ | with_reducible assumption | with_reducible refine grew_split ?_ | with_reducible refine grew_mk ?_ | with_reducible refine grew_plus ?_ | with_reducible refine grew_alloc ?_ | with_reducible refine grew_drew ?_ | (with_reducible refine grew_set ?_ (by first | exact Nat.le_refl _ | omega | (simp [go_sem]; done) | (simp [go_sem]; omega))))))) (O2.out.grew (by (repeat (first | with_reducible exact grew_refl _ | with_reducible assumption | with_reducible refine grew_split ?_ | with_reducible refine grew_mk ?_ | with_reducible refine grew_plus ?_ | with_reducible refine grew_alloc ?_ | with_reducible refine grew_drew ?_ | (with_reducible refine grew_set ?_ (by first | exact Nat.le_refl _ | omega | (simp [go_sem]; done) | (simp [go_sem]; omega))))))) (by unfold maxLen; omega)).mono ?_; (rintro e w' ⟨rfl, gx, rfl⟩)) | (go_at_call 27; refine (i_AreLts U B d o HSN.out _ (HS.out.grew (by (repeat (first | with_reducible exact grew_refl _ | with_reducible assumption | with_reducible refine grew_split ?_ | with_reducible refine grew_mk ?_ | with_reducible refine grew_plus ?_ | with_reducible refine grew_alloc ?_ | with_reducible refine grew_drew ?_ | (with_reducible refine grew_set ?_ (by first | exact Nat.le_refl _ | omega | (simp [go_sem]; done) | (simp [go_sem]; omega))))))) (by unfold maxLen; omega) hld).mono ?_; (rintro e w' ⟨rfl, gx, rfl⟩)))
      refine opq_wp (fun W7 => Lts W7 B U ∧ PRead W7 A1 N1 ∧ ∃ g, W7 = plus w g) ⟨HS.out.grew (by (repeat (first | with_reducible exact grew_refl _ | with_reducible assumption | with_reducible refine grew_split ?_ | with_reducible refine grew_mk ?_ | with_reducible refine grew_plus ?_ | with_reducible refine grew_alloc ?_ | with_reducible refine grew_drew ?_ | (with_reducible refine grew_set ?_ (by first | exact Nat.le_refl _ | omega | (simp [go_sem]; done) | (simp [go_sem]; omega)))))), O1.out.grew (by (repeat (first | with_reducible exact grew_refl _ | with_reducible assumption | with_reducible refine grew_split ?_ | with_reducible refine grew_mk ?_ | with_reducible refine grew_plus ?_ | with_reducible refine grew_alloc ?_ | with_reducible refine grew_drew ?_ | (with_reducible refine grew_set ?_ (by first | exact Nat.le_refl _ | omega | (simp [go_sem]; done) | (simp [go_sem]; omega)))))), by have hg := HG6.out; (repeat (first | with_reducible exact grew_refl _ | with_reducible assumption | with_reducible refine grew_split ?_ | with_reducible refine grew_mk ?_ | with_reducible refine grew_plus ?_ | with_reducible refine grew_alloc ?_ | with_reducible refine grew_drew ?_ | (with_reducible refine grew_set ?_ (by first | exact Nat.le_refl _ | omega | (simp [go_sem]; done) | (simp [go_sem]; omega)))))⟩ ?_
      clear HS O1 O2 HG6 HR HSN HC5 Q2 e1
      rintro W7 ⟨hU, hP, hg7⟩
      have HU := hid hU
      have HP := hid hP
      have HG7 := hid hg7
      clear hU hP hg7
      go_upto_block 2 with fail
      go_cut [28] (fun _ wx => ∃ g, wx = plus W7 g)
      case first =>
        as_aux_lemma =>
          go_wp2_with fail
          go_loopw [28] (fun i wr => ∃ a : Nat, a ≤ U.length ∧ i = .int .i64 a ∧ (∃ g, wr = plus W7 g)) (fun i _ => U.length - (intOf i).toNat)
          case atStart => exact ⟨0, Nat.zero_le _, rfl, _, plus_refl _⟩
          case round =>
            obtain ⟨a, ha, rfl, ga, rfl⟩ := hrel
            by_cases hlt : a < U.length
            · obtain ⟨bu, offu, rfl, hbu, hcu⟩ := HU.out.sl.at_ hlt
              have HX := hid hcu
              clear hcu
              go_upto_block 4 with fail
              go_wp2_with fail
              go_loopw [29] (fun i wr => ∃ b : Nat, b ≤ N1.length ∧ i = .int .i64 b ∧ (∃ g, wr = plus W7 g)) (fun i _ => N1.length - (intOf i).toNat)
              case atStart => exact ⟨0, Nat.zero_le _, rfl, by (repeat (first | with_reducible exact grew_refl _ | with_reducible assumption | with_reducible refine grew_split ?_ | with_reducible refine grew_mk ?_ | with_reducible refine grew_plus ?_ | with_reducible refine grew_alloc ?_ | with_reducible refine grew_drew ?_ | (with_reducible refine grew_set ?_ (by first | exact Nat.le_refl _ | omega | (simp [go_sem]; done) | (simp [go_sem]; omega)))))⟩
              case round =>
                obtain ⟨b, hb, rfl, gb, rfl⟩ := hrel
                by_cases hlb : b < N1.length
                · obtain ⟨bn, offn, rfl, hbn, hcn⟩ := HP.out.sl.at_ hlb
                  have hr := pcells hcn hlb
                  obtain ⟨hgl, hg0, hg1⟩ := row2 (HP.out.row N1[b] (List.getElem_mem hlb))
                  have hin : (N1[b].a, N1[b].b) ∈ R := by rw [← Q1.out]; exact List.mem_map.2 ⟨N1[b], List.getElem_mem hlb, rfl⟩
                  have HIN := hid hin
                  have hbI : (b : Int) < (N1.length : Int) := by omega
                  clear hcn hin
                  generalize N1[b] = p at hr hgl hg0 hg1 HIN
                  go_upto_block 6 with fail
                  go_wp2_with fail
                  go_loopw [30] (fun i wr => ∃ j : Nat, j ≤ U.length ∧ i = .int .i64 j ∧ (∃ g, wr = plus W7 g)) (fun i _ => U.length - (intOf i).toNat)
                  case atStart => exact ⟨0, Nat.zero_le _, rfl, by (repeat (first | with_reducible exact grew_refl _ | with_reducible assumption | with_reducible refine grew_split ?_ | with_reducible refine grew_mk ?_ | with_reducible refine grew_plus ?_ | with_reducible refine grew_alloc ?_ | with_reducible refine grew_drew ?_ | (with_reducible refine grew_set ?_ (by first | exact Nat.le_refl _ | omega | (simp [go_sem]; done) | (simp [go_sem]; omega)))))⟩
                  case round =>
                    obtain ⟨j, hj, rfl, gj, rfl⟩ := hrel
                    by_cases hlj : j < U.length
                    · have hkey := HPL.out (p.a, p.b) HIN.out a j hlt hlj
                      simp only at hkey
                      have AT1 := hid (HU.out.at_ U[a] (List.getElem_mem hlt))
                      have AT2 := hid (HU.out.at_ U[j] (List.getElem_mem hlj))
                      obtain ⟨hx0, hx1, hx2, hx3, hx4, hx5⟩ := lt6 HX.out hlt
                      obtain ⟨hy0, hy1, hy2, hy3, hy4, hy5⟩ := lt6 HX.out hlj
                      have haI : (a : Int) < (U.length : Int) := by omega
                      have hjI : (j : Int) < (U.length : Int) := by omega
                      generalize U[j] = y at hkey AT2 hy0 hy1 hy2 hy3 hy4 hy5
                      generalize U[a] = x at hkey AT1 hx0 hx1 hx2 hx3 hx4 hx5
                      obtain ⟨pa, oa, hpa⟩ : ∃ pa oa, periodF x.core = (pa, oa) := ⟨_, _, rfl⟩
                      obtain ⟨pb, ob, hpb⟩ : ∃ pb ob, periodF y.core = (pb, ob) := ⟨_, _, rfl⟩
                      have HK := hid (show x.core.id = p.a → y.core.id = p.b → oa = true ∧ ob = true ∧ pa = pb from fun h1 h2 => by
                        obtain ⟨k1, k2, k3⟩ := hkey h1 h2
                        have f1 : periodF x.core = ((per x.core.ph : Int), true) := by simp [periodF, k1]
                        have f2 : periodF y.core = ((per y.core.ph : Int), true) := by simp [periodF, k2]
                        rw [f1] at hpa
                        rw [f2] at hpb
                        injection hpa with i1 i2
                        injection hpb with i3 i4
                        exact ⟨i2.symm, i4.symm, by rw [← i1, ← i3, k3]⟩)
                      have HPA := hid hpa
                      have HPB := hid hpb
                      clear hkey hpa hpb
                      go_wp2_with fail
                      refine (i_PeriodOf x _ (AT1.out.grew (by (repeat (first | with_reducible exact grew_refl _ | with_reducible assumption | with_reducible refine grew_split ?_ | with_reducible refine grew_mk ?_ | with_reducible refine grew_plus ?_ | with_reducible refine grew_alloc ?_ | with_reducible refine grew_drew ?_ | (with_reducible refine grew_set ?_ (by first | exact Nat.le_refl _ | omega | (simp [go_sem]; done) | (simp [go_sem]; omega)))))))).mono ?_
                      rw [HPA.out]
                      (rintro e w' ⟨rfl, gx, rfl⟩)
                      go_wp2_with fail
                      refine (i_PeriodOf y _ (AT2.out.grew (by (repeat (first | with_reducible exact grew_refl _ | with_reducible assumption | with_reducible refine grew_split ?_ | with_reducible refine grew_mk ?_ | with_reducible refine grew_plus ?_ | with_reducible refine grew_alloc ?_ | with_reducible refine grew_drew ?_ | (with_reducible refine grew_set ?_ (by first | exact Nat.le_refl _ | omega | (simp [go_sem]; done) | (simp [go_sem]; omega)))))))).mono ?_
                      rw [HPB.out]
                      (rintro e w' ⟨rfl, gx, rfl⟩)
                      by_cases h1 : x.core.id = p.a
                      · have t1 : (x.core.id == p.a) = true := by simp [h1]
                        by_cases h2 : y.core.id = p.b
                        · have t2 : (y.core.id == p.b) = true := by simp [h2]
                          obtain ⟨rfl, rfl, rfl⟩ := HK.out h1 h2
                          have t3 : (pa != pa) = false := by simp
                          clear h1 h2
                          go_wp2_with fail
                          (refine wp_region_calm (by kernel_rfl) (by kernel_rfl) ?_; (repeat' (first | go_big_quiet_step (fail) | (refine wpQuiet_step (fun K hK => ?_); go_simp; go_ite <;> go_simp <;> (first | (refine hK _ ?_; clear hK K) | (apply Exists.intro; refine ⟨fun _ => ?_, hK _ ?_⟩; (fail); clear hK K))))); all_goals (refine wpQuiet_nil ?_; intro _ hw'; obtain ⟨gq, hw''⟩ := hw'; subst hw''))
                          go_wp2_with fail
                          go_roundw
                          case rel => exact ⟨j + 1, by omega, by go_num, by (repeat (first | with_reducible exact grew_refl _ | with_reducible assumption | with_reducible refine grew_split ?_ | with_reducible refine grew_mk ?_ | with_reducible refine grew_plus ?_ | with_reducible refine grew_alloc ?_ | with_reducible refine grew_drew ?_ | (with_reducible refine grew_set ?_ (by first | exact Nat.le_refl _ | omega | (simp [go_sem]; done) | (simp [go_sem]; omega)))))⟩
                          case measure => simp [intOf]; omega
                        · have t2 : (y.core.id == p.b) = false := by simp [h2]
                          clear h1 h2
                          go_wp2_with fail
                          (refine wp_region_calm (by kernel_rfl) (by kernel_rfl) ?_; (repeat' (first | go_big_quiet_step (fail) | (refine wpQuiet_step (fun K hK => ?_); go_simp; go_ite <;> go_simp <;> (first | (refine hK _ ?_; clear hK K) | (apply Exists.intro; refine ⟨fun _ => ?_, hK _ ?_⟩; (fail); clear hK K))))); all_goals (refine wpQuiet_nil ?_; intro _ hw'; obtain ⟨gq, hw''⟩ := hw'; subst hw''))
                          go_wp2_with fail
                          go_roundw
                          case rel => exact ⟨j + 1, by omega, by go_num, by (repeat (first | with_reducible exact grew_refl _ | with_reducible assumption | with_reducible refine grew_split ?_ | with_reducible refine grew_mk ?_ | with_reducible refine grew_plus ?_ | with_reducible refine grew_alloc ?_ | with_reducible refine grew_drew ?_ | (with_reducible refine grew_set ?_ (by first | exact Nat.le_refl _ | omega | (simp [go_sem]; done) | (simp [go_sem]; omega)))))⟩
                          case measure => simp [intOf]; omega
                      · have t1 : (x.core.id == p.a) = false := by simp [h1]
                        clear h1
                        go_wp2_with fail
                        (refine wp_region_calm (by kernel_rfl) (by kernel_rfl) ?_; (repeat' (first | go_big_quiet_step (fail) | (refine wpQuiet_step (fun K hK => ?_); go_simp; go_ite <;> go_simp <;> (first | (refine hK _ ?_; clear hK K) | (apply Exists.intro; refine ⟨fun _ => ?_, hK _ ?_⟩; (fail); clear hK K))))); all_goals (refine wpQuiet_nil ?_; intro _ hw'; obtain ⟨gq, hw''⟩ := hw'; subst hw''))
                        go_wp2_with fail
                        go_roundw
                        case rel => exact ⟨j + 1, by omega, by go_num, by (repeat (first | with_reducible exact grew_refl _ | with_reducible assumption | with_reducible refine grew_split ?_ | with_reducible refine grew_mk ?_ | with_reducible refine grew_plus ?_ | with_reducible refine grew_alloc ?_ | with_reducible refine grew_drew ?_ | (with_reducible refine grew_set ?_ (by first | exact Nat.le_refl _ | omega | (simp [go_sem]; done) | (simp [go_sem]; omega)))))⟩
                        case measure => simp [intOf]; omega
                    · go_wp2_with fail
                      go_roundw
                      case rel => exact ⟨b + 1, by omega, by go_num, by (repeat (first | with_reducible exact grew_refl _ | with_reducible assumption | with_reducible refine grew_split ?_ | with_reducible refine grew_mk ?_ | with_reducible refine grew_plus ?_ | with_reducible refine grew_alloc ?_ | with_reducible refine grew_drew ?_ | (with_reducible refine grew_set ?_ (by first | exact Nat.le_refl _ | omega | (simp [go_sem]; done) | (simp [go_sem]; omega)))))⟩
                      case measure => simp [intOf]; omega
                · go_wp2_with fail
                  go_roundw
                  case rel => exact ⟨a + 1, by omega, by go_num, by (repeat (first | with_reducible exact grew_refl _ | with_reducible assumption | with_reducible refine grew_split ?_ | with_reducible refine grew_mk ?_ | with_reducible refine grew_plus ?_ | with_reducible refine grew_alloc ?_ | with_reducible refine grew_drew ?_ | (with_reducible refine grew_set ?_ (by first | exact Nat.le_refl _ | omega | (simp [go_sem]; done) | (simp [go_sem]; omega)))))⟩
                  case measure => simp [intOf]; omega
            · go_wp2_with fail
              go_meet
              exact ⟨_, rfl⟩
      case rest =>
        obtain ⟨g7', rfl⟩ := hcut
        go_upto_region 44 with fail
        refine opq_wp (fun W8 => Code0 W8 A bs ∧ ∃ g, W8 = plus w g) ⟨HC.out.grewL (by have hg := HG7.out; (repeat (first | with_reducible exact grew_refl _ | with_reducible assumption | with_reducible refine grew_split ?_ | with_reducible refine grew_mk ?_ | with_reducible refine grew_plus ?_ | with_reducible refine grew_alloc ?_ | with_reducible refine grew_drew ?_ | (with_reducible refine grew_set ?_ (by first | exact Nat.le_refl _ | omega | (simp [go_sem]; done) | (simp [go_sem]; omega)))))), by have hg := HG7.out; (repeat (first | with_reducible exact grew_refl _ | with_reducible assumption | with_reducible refine grew_split ?_ | with_reducible refine grew_mk ?_ | with_reducible refine grew_plus ?_ | with_reducible refine grew_alloc ?_ | with_reducible refine grew_drew ?_ | (with_reducible refine grew_set ?_ (by first | exact Nat.le_refl _ | omega | (simp [go_sem]; done) | (simp [go_sem]; omega)))))⟩ ?_
        clear HU HP HG7 Q1 HPL hRl hn1 hl12 hld
        rintro W8 ⟨hC8, hg8⟩
        have HC8 := hid hC8
        have HG8 := hid hg8
        clear hC8 hg8
        go_wp2_with fail
        refine (s_DrawSeenFrom A c bs _ HC8.out).mono ?_
        rintro e W9 ⟨⟨B, d, V, x, y, rfl, hl12, hld, hO⟩, hg⟩
        have HG9 := hid (grew_two' HG8.out hg)
        have HS := hid hO.lts
        clear hO hg HG8
        obtain ⟨S, q, hS⟩ : ∃ S q, whereF (seenP x y) (spotB x y) V = (S, q) := ⟨_, _, rfl⟩
        have hSl := whereF_len hS
        have HS2 := hid hS
        have e2 : (q == q) = true := by simp
        clear hS
        go_wp2_with fail
        refine (i_SeenFrom V B d x y S q HS2.out _ (HS.out.grew (by (repeat (first | with_reducible exact grew_refl _ | with_reducible assumption | with_reducible refine grew_split ?_ | with_reducible refine grew_mk ?_ | with_reducible refine grew_plus ?_ | with_reducible refine grew_alloc ?_ | with_reducible refine grew_drew ?_ | (with_reducible refine grew_set ?_ (by first | exact Nat.le_refl _ | omega | (simp [go_sem]; done) | (simp [go_sem]; omega))))))) (by unfold maxLen; omega) hld).mono ?_
        (rintro e w' ⟨⟨A3, c3, rfl, hO3⟩, g3, rfl⟩; (try rw [plus_plus] at hO3); have O3 := hid (OwnF.sl hO3); clear hO3)
        go_wp2_with fail
        refine (s_SeenFrom V B d x y S q HS2.out _ (HS.out.grew (by (repeat (first | with_reducible exact grew_refl _ | with_reducible assumption | with_reducible refine grew_split ?_ | with_reducible refine grew_mk ?_ | with_reducible refine grew_plus ?_ | with_reducible refine grew_alloc ?_ | with_reducible refine grew_drew ?_ | (with_reducible refine grew_set ?_ (by first | exact Nat.le_refl _ | omega | (simp [go_sem]; done) | (simp [go_sem]; omega))))))) (by unfold maxLen; omega)).mono ?_
        (rintro e w' ⟨⟨A4, c4, rfl, hO4⟩, g4, rfl⟩; (try rw [plus_plus] at hO4); have O4 := hid (OwnF.sl hO4); clear hO4)
        go_wp2_with (go_at_call 18; refine (l_rInts S A3 A4 c3 c4 _ (O3.out.grew (by (repeat (first | with_reducible exact grew_refl _ | with_reducible assumption | with_reducible refine grew_split ?_ | with_reducible refine grew_mk ?_ | with_reducible refine grew_plus ?_ | with_reducible refine grew_alloc ?_ | with_reducible refine grew_drew ?_ | (with_reducible refine grew_set ?_ (by first | exact Nat.le_refl _ | omega | (simp [go_sem]; done) | (simp [go_sem]; omega))))))) (O4.out.grew (by (repeat (first | with_reducible exact grew_refl _ | with_reducible assumption | with_reducible refine grew_split ?_ | with_reducible refine grew_mk ?_ | with_reducible refine grew_plus ?_ | with_reducible refine grew_alloc ?_ | with_reducible refine grew_drew ?_ | (with_reducible refine grew_set ?_ (by first | exact Nat.le_refl _ | omega | (simp [go_sem]; done) | (simp [go_sem]; omega))))))) (by unfold maxLen; omega)).mono ?_; (rintro e w' ⟨rfl, gx, rfl⟩))
        go_ret
        have h := HG9.out
        exact ⟨rfl, by (repeat (first | with_reducible exact grew_refl _ | with_reducible assumption | with_reducible refine grew_split ?_ | with_reducible refine grew_mk ?_ | with_reducible refine grew_plus ?_ | with_reducible refine grew_alloc ?_ | with_reducible refine grew_drew ?_ | (with_reducible refine grew_set ?_ (by first | exact Nat.le_refl _ | omega | (simp [go_sem]; done) | (simp [go_sem]; omega)))))⟩
theorem fnLightLists_own : ownKnob Try.prog.godebug = none := by kernel_rfl
theorem fnLightLists_laidOut : laidOutB Try.prog = true := by kernel_rfl
set_option maxRecDepth 100000 in
theorem fnLightLists_lifted (os : Os) (started : os.Started) (H : Type) (enc : TypeId × Value → H) :
    ReturnsInHanded {} Try.checked os 4 .any (Rows.fnLightListsSpec.pre6 enc Try.prog Try.f4 Rows.fnLightListsRow.domain false) (Rows.fnLightListsSpec.post enc Try.prog Try.f4 false true false false) := by
  refine returnsInHanded_of_change (C := Try.checked) fnLightLists_own started (by kernel_rfl) Try.func4
    (ChangeSpec.witness6 (enc := enc) (C := Try.checked) false ⟨#[], #[.slice none 0 0], []⟩ 8 (by kernel_rfl) (by kernel_rfl) (by kernel_rfl) (by kernel_rfl)) ?_
  intro W base args ds gs before hval0 hW hcnd _
  have hval : ∀ (j : Nat) t v, Try.f4.params[j]? = some t → args[j]? = some v → Value.okWide Try.prog W .any base t v := hval0
  have hW' := hW
  obtain ⟨p, q, hA0, hV, rfl, hfz, hnd⟩ := hW
  have hA : DataW.TrodAll enc Try.prog W 0 (fun _ => true) true Try.f4.params.toList args.toList ds p := hA0
  rw [Try.params4] at hA hval
  obtain ⟨v0, vs0, d0, ds0, p0, q0, hargs, rfl, rfl, h0, r0⟩ := trodAll_cons hA
  obtain ⟨rfl, rfl, rfl⟩ := trodAll_nil r0
  obtain rfl : args = #[v0] := by cases args; simp_all
  obtain ⟨rfl, rfl⟩ := trodVars_none hV
  have k0 := h0
  have lt0 : ∀ x ∈ p0, x.block < W.heap.size := by obtain ⟨m, hm⟩ := k0; exact DataW.trod_lt m _ _ _ hm
  obtain ⟨A, c, l, rfl, hS, hb, hl⟩ := open_code (hval 0 34 v0 rfl rfl) h0
  clear hA0 hval0
  refine (l_FnLightLists A c l W hS hb hl).mono fun e W' ⟨he, hg⟩ => ?_
  have bel := below_of_grew hg
  subst he
  exact ⟨_, rfl, _, _, _, [], _, [], hW', trodAll_mk1 (shut_bool Try.underlying4 _), (trodAll_cons_mk (Below.trod fnLightLists_laidOut (by kernel_rfl) (of_decide_eq_true (by kernel_rfl)) k0 bel lt0) trodAll_mk0), rfl, bel.frame _, fun h => by cases h⟩
theorem fnLightLists_over : Rows.fnLightListsRow.holds Try.pinned (OpenSpec.ofChange Rows.fnLightListsSpec) :=
  OpenClaim.holds_of_wide 4 Try.f4 rfl rfl rfl rfl rfl rfl rfl ⟨rfl, rfl, rfl, rfl, rfl⟩ rfl rfl rfl rfl rfl (by kernel_rfl) Try.func4 (by kernel_rfl)
    (of_decide_eq_true (by kernel_rfl)) (by unfold Func.isWrapper; first | (rw [if_pos (by decide +kernel)]; kernel_rfl) | (rw [if_neg (by decide +kernel)]; exact ⟨rfl, rfl⟩))
    (fun os started H enc _ => fnLightLists_lifted os started H enc)
theorem fnLightLists_holds : Rows.FnLightListsSaid := fnLightLists_over
end Go.Proofs.Ytjlaidjogladaaa
