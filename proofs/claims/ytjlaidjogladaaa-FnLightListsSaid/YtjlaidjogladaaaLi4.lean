/- The laws' conversions of lists of lights: sizes, copies, comparison of equal ones. -/
import Derived.Test.YtjlaidjogladaaaLi2
import Derived.Test.YtjlaidjogladaaaMk
namespace Go.Proofs.Ytjlaidjogladaaa
open Go.RowKit

theorem lt6 {w : World} {b off : Nat} {l : List LightV} (hc : ∀ i (hi : i < l.length) j u, (LightV.row l[i])[j]? = some u → w.cell? ⟨b, off + i * 6 + j, none⟩ = some u) {k : Nat} (hk : k < l.length) :
    w.cell? ⟨b, off + k * 6, none⟩ = some (.int .i64 l[k].core.id) ∧ w.cell? ⟨b, off + k * 6 + 1, none⟩ = some (.string l[k].core.nm) ∧ w.cell? ⟨b, off + k * 6 + 2, none⟩ = some (.int .i64 l[k].core.x) ∧
    w.cell? ⟨b, off + k * 6 + 3, none⟩ = some (.int .i64 l[k].core.y) ∧ w.cell? ⟨b, off + k * 6 + 4, none⟩ = some (.int .i64 l[k].core.range) ∧ w.cell? ⟨b, off + k * 6 + 5, none⟩ = some (.slice l[k].A l[k].core.ph.length l[k].c) :=
  ⟨hc k hk 0 _ rfl, hc k hk 1 _ rfl, hc k hk 2 _ rfl, hc k hk 3 _ rfl, hc k hk 4 _ rfl, hc k hk 5 _ rfl⟩
/-- Lists of lights with the same cores. -/
def Alike (L M : List LightV) : Prop := L.length = M.length ∧ ∀ i (h : i < L.length) (h' : i < M.length), L[i].core = M[i].core
theorem Filled.push {α : Type} {cs : Array Value} {s : Nat} {cells : α → List Value} {l : List α} {x : α} (h : Filled cs s cells l l.length) (hs : ∀ x, (cells x).length = s) (hz : (l.length + 1) * s ≤ cs.size) :
    Filled (put cs (l.length * s) (cells x)) s cells (l ++ [x]) (l ++ [x]).length := by
  have h1 : Filled cs s cells (l ++ [x]) l.length := by
    intro i hi hik j u hu
    rw [List.getElem_append_left hik] at hu
    exact h i hik hik j u hu
  have h2 := h1.step (by simp) (fun y _ => hs y) (by simpa using hz)
  simpa using h2
set_option maxHeartbeats 1000000 in
theorem l_toLightF (v : LightV) (w : World) (hv : v.At w) (hl : v.core.ph.length ≤ 1048576) :
    Calls Try.prog 34 #[v.val] w fun e' w' => (∃ A' c', e' = .returned (LightV.val ⟨v.core, A', c'⟩) ∧ OwnF w.heap.size 68 2 PhaseR.row w' A' v.core.ph) ∧ ∃ g, w' = plus w g := by
  obtain ⟨⟨id, nm, x, y, rg, ph⟩, A, c⟩ := v
  have HP := hid hv.ph
  have hn := hv.nm
  simp only at HP hn hl ⊢
  clear hv
  go_enter Try.func34, Try.ntmps34
  go_wp2_with (first
    | (go_at_call 65; refine (l_toSpot _ _ _).mono ?_; (rintro e w' ⟨rfl, gx, rfl⟩)))
  refine (l_toPhaseS ph _ _ _ ?_ (by omega)).mono ?_
  · exact HP.out.grew (by (repeat (first | with_reducible exact grew_refl _ | with_reducible assumption | with_reducible refine grew_split ?_ | with_reducible refine grew_mk ?_ | with_reducible refine grew_plus ?_ | with_reducible refine grew_alloc ?_ | with_reducible refine grew_drew ?_ | (with_reducible refine grew_set ?_ (by first | exact Nat.le_refl _ | omega | (simp [go_sem]; done) | (simp [go_sem]; omega))))))
  rintro e w' ⟨⟨g1, cs1, rfl, hg1, hB1, hs1, hF1⟩, g2, rfl⟩
  rw [plus_plus] at hB1
  have HB := hid hB1
  have HF := hid hF1
  have HG := hid hg1
  have HS := hid hs1
  clear hB1 hs1 hF1 hg1
  go_wp2_with fail
  refine bodyPost_ret (v := (⟨⟨id, nm, x, y, rg, ph⟩, some ⟨g1, 0, none⟩, ph.length⟩ : LightV).val) ?_ rfl ?_
  · simp [results, Try.results34, go_sem]
  · have h := HG.out
    rw [size_plus] at h
    refine ⟨⟨some ⟨g1, 0, none⟩, ph.length, rfl, .inr ⟨g1, cs1, rfl, by simp at h; omega, ?_, Nat.le_of_eq HS.out.symm, HF.out⟩⟩, ?_⟩
    · exact HB.out.base (by simp at h ⊢; omega) (by simp)
    · (repeat (first | with_reducible exact grew_refl _ | with_reducible assumption | with_reducible refine grew_split ?_ | with_reducible refine grew_mk ?_ | with_reducible refine grew_plus ?_ | with_reducible refine grew_alloc ?_ | with_reducible refine grew_drew ?_ | (with_reducible refine grew_set ?_ (by first | exact Nat.le_refl _ | omega | (simp [go_sem]; done) | (simp [go_sem]; omega)))))
theorem light_info : (Try.prog.info? 55).map (fun i => (i.zero, i.size, i.bytes)) = some (some (.agg #[.int .i64 0, .string ByteArray.empty, .int .i64 0, .int .i64 0, .int .i64 0, .slice none 0 0]), 6, 72) := by kernel_rfl
set_option maxHeartbeats 2000000 in
theorem l_toLightS0 (L : List LightV) (A : Option Addr) (c : Nat) (w : World) (hA : Sl w 6 LightV.row A L) (hat : ∀ u ∈ L, u.At w) (hp : ∀ u ∈ L, u.core.ph.length ≤ 1048576) (hl : L.length ≤ 1048576) :
    Calls Try.prog 7 #[.slice A L.length c] w fun e' w' => (∃ (M : List LightV), e' = .returned (.slice (some ⟨w.heap.size, 0, none⟩) M.length M.length) ∧ Alike L M ∧ OwnF w.heap.size 55 6 LightV.row w' (some ⟨w.heap.size, 0, none⟩) M ∧ ∀ u ∈ M, OwnF (w.heap.size + 1) 68 2 PhaseR.row w' u.A u.core.ph) ∧ ∃ g, w' = plus w g := by
  obtain ⟨i0, hi0, hz0, hz1, hz2⟩ := info_parts light_info
  have hmk : ∀ W : World, (Instr.makeSlice 27 (.int .i64 (L.length : Int)) (.int .i64 (L.length : Int))).run Try.prog W = .ok (.slice (some ⟨W.heap.size, 0, none⟩) L.length L.length) (W.alloc (.cells (madeCells _ (L.length * 6)) 55)) := fun W => by
    rcases run_make_rowN (P := Try.prog) 27 55 i0 _ Try.underlying27 hi0 hz0 L.length (by rw [hz2]; omega) W with h | h
    · rw [hz1] at h; exact h
    · rw [hz2] at h; cases h
  go_enter Try.func7, Try.ntmps7
  go_wp2_with fail
  go_loopw [4] (fun i wr => ∃ (M : List LightV) (cs : Array Value), M.length ≤ L.length ∧ i = .int .i64 M.length ∧ Blk wr w.heap.size 55 cs ∧ cs.size = L.length * 6 ∧ Filled cs 6 LightV.row M M.length ∧ (∀ i (h : i < M.length) (h' : i < L.length), L[i].core = M[i].core) ∧ (∀ u ∈ M, OwnF (w.heap.size + 1) 68 2 PhaseR.row wr u.A u.core.ph) ∧ ∃ g, wr = plus w g) (fun i _ => L.length - (intOf i).toNat)
  case atStart => exact ⟨[], _, Nat.zero_le _, rfl, Blk.new _ _ _, by simp [size_madeCells], Filled.zero _ _ _ _, by simp, by simp, by (repeat (first | with_reducible exact grew_refl _ | with_reducible assumption | with_reducible refine grew_split ?_ | with_reducible refine grew_mk ?_ | with_reducible refine grew_plus ?_ | with_reducible refine grew_alloc ?_ | with_reducible refine grew_drew ?_ | (with_reducible refine grew_set ?_ (by first | exact Nat.le_refl _ | omega | (simp [go_sem]; done) | (simp [go_sem]; omega)))))⟩
  case round =>
    obtain ⟨M, cs, hk, rfl, hB, hsz, hF, hco, hown, hg⟩ := hrel
    have hAr : Sl wr 6 LightV.row A L := hA.below (below_of_grew hg)
    have HG := hid hg
    have HS := hid hsz
    have HF := hid hF
    have HB := hid hB
    have HO := hid hown
    have HC := hid hco
    clear hg hF hown hco
    by_cases hlt : M.length < L.length
    · obtain ⟨b, off, rfl, hb, hc⟩ := hAr.at_ hlt
      obtain ⟨hc0, hc1, hc2, hc3, hc4, hc5⟩ := lt6 hc hlt
      have hG := hB.lt
      obtain ⟨⟨_, hz0⟩, ⟨_, hz1⟩, ⟨_, hz2⟩, ⟨_, hz3⟩, ⟨_, hz4⟩, ⟨_, hz5⟩, hf0, hf1, hf2, hf3, hf4, hf5⟩ := hB.some6 (M.length * 6) (by omega)
      have HT := hid (hat L[M.length] (List.getElem_mem hlt))
      have HP := hid (hp L[M.length] (List.getElem_mem hlt))
      clear hc hAr hA hB hsz
      go_wp2_with (go_at_call 34; refine (l_toLightF L[M.length] _ (HT.out.grew HG.out) HP.out).mono ?_; rintro e w' ⟨⟨A3, c3, rfl, ho3⟩, gx, rfl⟩; have HO3 := hid ho3; clear ho3)
      go_roundw
      case rel =>
        have h1 := HF.out.push (x := (⟨L[M.length].core, A3, c3⟩ : LightV)) (fun _ => rfl) (by rw [HS.out]; exact Nat.mul_le_mul_right _ (by omega))
        have h2 := (HB.out.put6 (M.length * 6) (.int .i64 L[M.length].core.id) (.string L[M.length].core.nm) (.int .i64 L[M.length].core.x) (.int .i64 L[M.length].core.y) (.int .i64 L[M.length].core.range) (.slice A3 L[M.length].core.ph.length c3)).plus gx
        have HG := HG.out
        refine ⟨M ++ [(⟨L[M.length].core, A3, c3⟩ : LightV)], _, by simp; omega, by simp, h2, by rw [size_put]; exact HS.out, by exact h1, ?_, ?_, by (repeat (first | with_reducible exact grew_refl _ | with_reducible assumption | with_reducible refine grew_split ?_ | with_reducible refine grew_mk ?_ | with_reducible refine grew_plus ?_ | with_reducible refine grew_alloc ?_ | with_reducible refine grew_drew ?_ | (with_reducible refine grew_set ?_ (by first | exact Nat.le_refl _ | omega | (simp [go_sem]; done) | (simp [go_sem]; omega)))))⟩
        · intro i hi hi'
          by_cases him : i < M.length
          · rw [List.getElem_append_left him]; exact HC.out i him hi'
          · have : i = M.length := by simp at hi; omega
            subst this
            simp
        · intro u hu
          rcases List.mem_append.1 hu with hu | hu
          · exact ((HO.out u hu).kept (grown_set (grown_set (grown_set (grown_set (grown_set (grown_set (grown_refl _ _))))))) (fun k hk => by injection hk with hk; omega)).grew (grew_plus (grew_refl _))
          · simp at hu
            subst hu
            exact (HO3.out.base (Nat.le_refl _) (by simp)).less (by omega)
      case measure => simp [intOf]; omega
    · have hln : M.length = L.length := by omega
      clear hB hsz
      go_wp2
      go_ret
      refine ⟨⟨M, by rw [hln]; rfl, ⟨hln.symm, fun i h h' => HC.out i h' h⟩, .inr ⟨_, cs, rfl, Nat.le_refl _, HB.out, by rw [HS.out, hln]; exact Nat.le_refl _, HF.out⟩, fun u hu => HO.out u hu⟩, HG.out⟩
theorem l_toLightS (L : List LightV) (A : Option Addr) (c : Nat) (w : World) (hA : Sl w 6 LightV.row A L) (hat : ∀ u ∈ L, u.At w) (hp : ∀ u ∈ L, u.core.ph.length ≤ 1048576) (hl : L.length ≤ 1048576) :
    Calls Try.prog 7 #[.slice A L.length c] w fun e' w' => (∃ (A' : Option Addr) (M : List LightV), e' = .returned (.slice A' M.length M.length) ∧ Alike L M ∧ OwnF w.heap.size 55 6 LightV.row w' A' M ∧ ∀ u ∈ M, OwnF w.heap.size 68 2 PhaseR.row w' u.A u.core.ph) ∧ ∃ g, w' = plus w g := by
  refine (l_toLightS0 L A c w hA hat hp hl).mono ?_
  rintro e w' ⟨⟨M, rfl, h1, h2, h3⟩, hg⟩
  exact ⟨⟨_, M, rfl, h1, h2, fun u hu => (h3 u hu).less (by omega)⟩, hg⟩
set_option maxHeartbeats 1000000 in
theorem l_eqLightS (L M : List LightV) (A B : Option Addr) (c d : Nat) (w : World) (hM : Alike L M) (hA : Sl w 6 LightV.row A L) (hB : Sl w 6 LightV.row B M) (hL : ∀ u ∈ L, u.At w) (hK : ∀ u ∈ M, u.At w) (hl : L.length ≤ maxLen) :
    Calls Try.prog 10 #[.slice A L.length c, .slice B M.length d] w fun e' w' => e' = .returned (.bool true) ∧ ∃ g, w' = plus w g := by
  unfold maxLen at hl
  obtain ⟨hlen, hcore⟩ := hM
  rw [← hlen]
  go_enter Try.func10, Try.ntmps10
  go_wp2_with fail
  go_loopw [5] (fun i wr => ∃ k : Nat, k ≤ L.length ∧ i = .int .i64 k ∧ (∃ g, wr = plus w g)) (fun i _ => L.length - (intOf i).toNat)
  case atStart => exact ⟨0, Nat.zero_le _, rfl, _, plus_refl _⟩
  case round =>
    obtain ⟨k, hk, rfl, g, rfl⟩ := hrel
    by_cases hlt : k < L.length
    · have hltM : k < M.length := by omega
      obtain ⟨b, off, rfl, hb, hc⟩ := hA.at_ hlt
      obtain ⟨b', off', rfl, hb', hc'⟩ := hB.at_ hltM
      obtain ⟨hc0, hc1, hc2, hc3, hc4, hc5⟩ := lt6 hc hlt
      obtain ⟨hd0, hd1, hd2, hd3, hd4, hd5⟩ := lt6 hc' hltM
      have e1 := hcore k hlt hltM
      rw [← e1] at hd0 hd1 hd2 hd3 hd4 hd5
      have H1 : Hid (LightV.At w ⟨L[k].core, L[k].A, L[k].c⟩) := hid (hL L[k] (List.getElem_mem hlt))
      have H2 : Hid (LightV.At w ⟨L[k].core, M[k].A, M[k].c⟩) := hid (by rw [e1]; exact hK M[k] (List.getElem_mem hltM))
      clear hc hA hc' hB hcore e1 hL hK
      go_wp2_with fail
      (refine wp_region_calm (by kernel_rfl) (by kernel_rfl) ?_; (repeat' (first | go_big_quiet_step ((go_at_call 38; first | exact calm_of (l_eqLight L[k].core L[k].A M[k].A L[k].c M[k].c _ (H1.out.grew (by (repeat (first | with_reducible exact grew_refl _ | with_reducible assumption | with_reducible refine grew_split ?_ | with_reducible refine grew_mk ?_ | with_reducible refine grew_plus ?_ | with_reducible refine grew_alloc ?_ | with_reducible refine grew_drew ?_ | (with_reducible refine grew_set ?_ (by first | exact Nat.le_refl _ | omega | (simp [go_sem]; done) | (simp [go_sem]; omega))))))) (H2.out.grew (by (repeat (first | with_reducible exact grew_refl _ | with_reducible assumption | with_reducible refine grew_split ?_ | with_reducible refine grew_mk ?_ | with_reducible refine grew_plus ?_ | with_reducible refine grew_alloc ?_ | with_reducible refine grew_drew ?_ | (with_reducible refine grew_set ?_ (by first | exact Nat.le_refl _ | omega | (simp [go_sem]; done) | (simp [go_sem]; omega)))))))) | exact calm_add (l_eqLight L[k].core L[k].A M[k].A L[k].c M[k].c _ (H1.out.grew (by (repeat (first | with_reducible exact grew_refl _ | with_reducible assumption | with_reducible refine grew_split ?_ | with_reducible refine grew_mk ?_ | with_reducible refine grew_plus ?_ | with_reducible refine grew_alloc ?_ | with_reducible refine grew_drew ?_ | (with_reducible refine grew_set ?_ (by first | exact Nat.le_refl _ | omega | (simp [go_sem]; done) | (simp [go_sem]; omega))))))) (H2.out.grew (by (repeat (first | with_reducible exact grew_refl _ | with_reducible assumption | with_reducible refine grew_split ?_ | with_reducible refine grew_mk ?_ | with_reducible refine grew_plus ?_ | with_reducible refine grew_alloc ?_ | with_reducible refine grew_drew ?_ | (with_reducible refine grew_set ?_ (by first | exact Nat.le_refl _ | omega | (simp [go_sem]; done) | (simp [go_sem]; omega)))))))))) | (refine wpQuiet_step (fun K hK => ?_); go_simp; go_ite <;> go_simp <;> (first | (refine hK _ ?_; clear hK K) | (apply Exists.intro; refine ⟨fun _ => ?_, hK _ ?_⟩; ((go_at_call 38; first | exact calm_of (l_eqLight L[k].core L[k].A M[k].A L[k].c M[k].c _ (H1.out.grew (by (repeat (first | with_reducible exact grew_refl _ | with_reducible assumption | with_reducible refine grew_split ?_ | with_reducible refine grew_mk ?_ | with_reducible refine grew_plus ?_ | with_reducible refine grew_alloc ?_ | with_reducible refine grew_drew ?_ | (with_reducible refine grew_set ?_ (by first | exact Nat.le_refl _ | omega | (simp [go_sem]; done) | (simp [go_sem]; omega))))))) (H2.out.grew (by (repeat (first | with_reducible exact grew_refl _ | with_reducible assumption | with_reducible refine grew_split ?_ | with_reducible refine grew_mk ?_ | with_reducible refine grew_plus ?_ | with_reducible refine grew_alloc ?_ | with_reducible refine grew_drew ?_ | (with_reducible refine grew_set ?_ (by first | exact Nat.le_refl _ | omega | (simp [go_sem]; done) | (simp [go_sem]; omega)))))))) | exact calm_add (l_eqLight L[k].core L[k].A M[k].A L[k].c M[k].c _ (H1.out.grew (by (repeat (first | with_reducible exact grew_refl _ | with_reducible assumption | with_reducible refine grew_split ?_ | with_reducible refine grew_mk ?_ | with_reducible refine grew_plus ?_ | with_reducible refine grew_alloc ?_ | with_reducible refine grew_drew ?_ | (with_reducible refine grew_set ?_ (by first | exact Nat.le_refl _ | omega | (simp [go_sem]; done) | (simp [go_sem]; omega))))))) (H2.out.grew (by (repeat (first | with_reducible exact grew_refl _ | with_reducible assumption | with_reducible refine grew_split ?_ | with_reducible refine grew_mk ?_ | with_reducible refine grew_plus ?_ | with_reducible refine grew_alloc ?_ | with_reducible refine grew_drew ?_ | (with_reducible refine grew_set ?_ (by first | exact Nat.le_refl _ | omega | (simp [go_sem]; done) | (simp [go_sem]; omega)))))))))); clear hK K))))); all_goals (refine wpQuiet_nil ?_; intro _ hw'; obtain ⟨gq, hw''⟩ := hw'; subst hw''))
      go_wp2
      go_roundw
      case rel => exact ⟨k + 1, by omega, by go_num, by (repeat (first | with_reducible exact grew_refl _ | with_reducible assumption | with_reducible refine grew_split ?_ | with_reducible refine grew_mk ?_ | with_reducible refine grew_plus ?_ | with_reducible refine grew_alloc ?_ | with_reducible refine grew_drew ?_ | (with_reducible refine grew_set ?_ (by first | exact Nat.le_refl _ | omega | (simp [go_sem]; done) | (simp [go_sem]; omega)))))⟩
      case measure => simp [intOf]; omega
    · go_wp2
      go_ret
      exact ⟨rfl, by (repeat (first | with_reducible exact grew_refl _ | with_reducible assumption | with_reducible refine grew_split ?_ | with_reducible refine grew_mk ?_ | with_reducible refine grew_plus ?_ | with_reducible refine grew_alloc ?_ | with_reducible refine grew_drew ?_ | (with_reducible refine grew_set ?_ (by first | exact Nat.le_refl _ | omega | (simp [go_sem]; done) | (simp [go_sem]; omega)))))⟩
set_option maxHeartbeats 1000000 in
theorem l_szLightS (L : List LightV) (A : Option Addr) (c : Nat) (n : Int) (w : World) (hA : Sl w 6 LightV.row A L) (hat : ∀ u ∈ L, u.At w) (hl : L.length ≤ maxLen) (h0 : 0 ≤ n) (h1 : n ≤ 1048576) :
    Calls Try.prog 5 #[.slice A L.length c, .int .i64 n] w fun e' w' => (∃ k, e' = .returned (.int .i64 k) ∧ -1 ≤ k ∧ k ≤ n ∧ (0 ≤ k → L.length ≤ 1048576 ∧ ∀ u ∈ L, u.core.ph.length ≤ 1048576)) ∧ ∃ g, w' = plus w g := by
  unfold maxLen at hl
  by_cases hneg : n - (L.length : Int) < 0
  · go_enter Try.func5, Try.ntmps5
    go_wp2
    go_ret
    exact ⟨⟨_, rfl, by omega, by omega, by omega⟩, by (repeat (first | with_reducible exact grew_refl _ | with_reducible assumption | with_reducible refine grew_split ?_ | with_reducible refine grew_mk ?_ | with_reducible refine grew_plus ?_ | with_reducible refine grew_alloc ?_ | with_reducible refine grew_drew ?_ | (with_reducible refine grew_set ?_ (by first | exact Nat.le_refl _ | omega | (simp [go_sem]; done) | (simp [go_sem]; omega)))))⟩
  have HAT := hid hat
  clear hat
  go_enter Try.func5, Try.ntmps5
  go_wp2_with fail
  go_loopw [1, 5] (fun q i wr => ∃ (k : Nat) (m : Int), k ≤ L.length ∧ i = .int .i64 k ∧ q = .int .i64 m ∧ 0 ≤ m ∧ m ≤ n ∧ (∀ u ∈ L.take k, u.core.ph.length ≤ 1048576) ∧ (∃ g, wr = plus w g)) (fun _ i _ => L.length - (intOf i).toNat)
  case atStart => exact ⟨0, _, Nat.zero_le _, rfl, rfl, by omega, by omega, by simp, _, plus_refl _⟩
  case round =>
    obtain ⟨k, m, hk, rfl, rfl, hm0, hm1, hall, g, rfl⟩ := hrel
    have HALL := hid hall
    clear hall
    by_cases hlt : k < L.length
    · obtain ⟨b, off, rfl, hb, hc⟩ := hA.at_ hlt
      obtain ⟨hc0, hc1, hc2, hc3, hc4, hc5⟩ := lt6 hc hlt
      clear hc hA
      go_wp2_with fail
      refine (l_szLight L[k] m _ ((HAT.out L[k] (List.getElem_mem hlt)).grew (by (repeat (first | with_reducible exact grew_refl _ | with_reducible assumption | with_reducible refine grew_split ?_ | with_reducible refine grew_mk ?_ | with_reducible refine grew_plus ?_ | with_reducible refine grew_alloc ?_ | with_reducible refine grew_drew ?_ | (with_reducible refine grew_set ?_ (by first | exact Nat.le_refl _ | omega | (simp [go_sem]; done) | (simp [go_sem]; omega))))))) (by omega) (by omega)).mono ?_
      rintro e w' ⟨⟨kz, rfl, hkz, hkz1, hkz2⟩, gx, rfl⟩
      by_cases hneg : kz < 0
      · clear hkz2
        go_wp2
        go_ret
        exact ⟨⟨_, rfl, by omega, by omega, by omega⟩, by (repeat (first | with_reducible exact grew_refl _ | with_reducible assumption | with_reducible refine grew_split ?_ | with_reducible refine grew_mk ?_ | with_reducible refine grew_plus ?_ | with_reducible refine grew_alloc ?_ | with_reducible refine grew_drew ?_ | (with_reducible refine grew_set ?_ (by first | exact Nat.le_refl _ | omega | (simp [go_sem]; done) | (simp [go_sem]; omega)))))⟩
      · have HZ := hid (hkz2 (by omega))
        clear hkz2
        go_wp2
        go_roundw
        case rel =>
          refine ⟨k + 1, _, by omega, by go_num, rfl, by omega, by omega, ?_, by (repeat (first | with_reducible exact grew_refl _ | with_reducible assumption | with_reducible refine grew_split ?_ | with_reducible refine grew_mk ?_ | with_reducible refine grew_plus ?_ | with_reducible refine grew_alloc ?_ | with_reducible refine grew_drew ?_ | (with_reducible refine grew_set ?_ (by first | exact Nat.le_refl _ | omega | (simp [go_sem]; done) | (simp [go_sem]; omega)))))⟩
          intro u hu
          rw [List.take_succ_eq_append_getElem hlt] at hu
          rcases List.mem_append.1 hu with hu | hu
          · exact HALL.out u hu
          · simp at hu; subst hu; exact HZ.out
        case measure => simp [intOf]; omega
    · obtain rfl : k = L.length := by omega
      clear hA
      go_wp2
      go_ret
      refine ⟨⟨_, rfl, by omega, by omega, fun _ => ⟨by omega, fun u hu => HALL.out u (by simpa using hu)⟩⟩, by (repeat (first | with_reducible exact grew_refl _ | with_reducible assumption | with_reducible refine grew_split ?_ | with_reducible refine grew_mk ?_ | with_reducible refine grew_plus ?_ | with_reducible refine grew_alloc ?_ | with_reducible refine grew_drew ?_ | (with_reducible refine grew_set ?_ (by first | exact Nat.le_refl _ | omega | (simp [go_sem]; done) | (simp [go_sem]; omega)))))⟩
end Go.Proofs.Ytjlaidjogladaaa
