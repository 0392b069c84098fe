/- Pairs of lights that look alike: the plain value, and rows of two numbers: comparison and marks. -/
import Derived.Test.YtjlaidjogladaaaLk2
import Derived.Test.YtjlaidjogladaaaLk3
namespace Go.Proofs.Ytjlaidjogladaaa
open Go.RowKit

/-- A row of two numbers, in the block g. -/
structure PairV where
  a : Int
  b : Int
  g : Nat
  c : Nat
def PairV.row (p : PairV) : List Value := [.slice (some ⟨p.g, 0, none⟩) 2 p.c]
theorem PairV.row_len (p : PairV) : p.row.length = 1 := rfl
theorem PairV.one (p : PairV) : ∀ u ∈ p.row, u.oneCell' = true := by
  intro u hu
  simp [PairV.row] at hu
  subst hu
  rfl
def PairV.ab (p : PairV) : Int × Int := (p.a, p.b)
theorem pcells {w : World} {b off : Nat} {l : List PairV} (hc : ∀ i (hi : i < l.length) j u, (PairV.row l[i])[j]? = some u → w.cell? ⟨b, off + i * 1 + j, none⟩ = some u) {k : Nat} (hk : k < l.length) :
    w.cell? ⟨b, off + k, none⟩ = some (.slice (some ⟨l[k].g, 0, none⟩) 2 l[k].c) := by
  have := hc k hk 0 _ rfl
  simpa using this
/-- The rows can be read. -/
structure PRead (w : World) (A : Option Addr) (M : List PairV) : Prop where
  sl : Sl w 1 PairV.row A M
  row : ∀ p ∈ M, Sl w 1 intRow (some ⟨p.g, 0, none⟩) [p.a, p.b]
theorem PRead.grew {w w' : World} {A : Option Addr} {M : List PairV} (h : PRead w A M) (hg : ∃ g, w' = plus w g) : PRead w' A M := ⟨h.sl.grew hg, fun p hp => (h.row p hp).grew hg⟩
theorem ab_get {M N : List PairV} (h : M.map PairV.ab = N.map PairV.ab) {k : Nat} (hk : k < M.length) (hk' : k < N.length) : N[k].a = M[k].a ∧ N[k].b = M[k].b := by
  have h1 : (M.map PairV.ab)[k]'(by simpa using hk) = (N.map PairV.ab)[k]'(by simpa using hk') := by simp only [h]
  simp only [List.getElem_map, PairV.ab, Prod.mk.injEq] at h1
  exact ⟨h1.1.symm, h1.2.symm⟩
theorem ab_len {M N : List PairV} (h : M.map PairV.ab = N.map PairV.ab) : M.length = N.length := by
  have := congrArg List.length h
  simpa using this
set_option maxHeartbeats 1000000 in
theorem l_eqIntSS (M N : List PairV) (A B : Option Addr) (c d : Nat) (w : World) (hM : M.map PairV.ab = N.map PairV.ab) (hA : PRead w A M) (hB : PRead w B N) (hl : M.length ≤ maxLen) :
    Calls Try.prog 9 #[.slice A M.length c, .slice B N.length d] w fun e' w' => e' = .returned (.bool true) ∧ ∃ g, w' = plus w g := by
  unfold maxLen at hl
  have HM := hid hM
  have HA := hid hA
  have HB := hid hB
  have hn := ab_len hM
  rw [← hn]
  have HN := hid hn
  clear hM hA hB hn
  go_enter Try.func9, Try.ntmps9
  go_wp2_with fail
  go_loopw [5] (fun i wr => ∃ k : Nat, k ≤ M.length ∧ i = .int .i64 k ∧ (∃ g, wr = plus w g)) (fun i _ => M.length - (intOf i).toNat)
  case atStart => exact ⟨0, Nat.zero_le _, rfl, _, plus_refl _⟩
  case round =>
    obtain ⟨k, hk, rfl, g, rfl⟩ := hrel
    by_cases hlt : k < M.length
    · have hlt' : k < N.length := by have := HN.out; omega
      obtain ⟨b, off, rfl, hb, hc⟩ := HA.out.sl.at_ hlt
      obtain ⟨b', off', rfl, hb', hc'⟩ := HB.out.sl.at_ hlt'
      have hc0 := pcells hc hlt
      have hd0 := pcells hc' hlt'
      have hr1 := HA.out.row M[k] (List.getElem_mem hlt)
      have hr2 := HB.out.row N[k] (List.getElem_mem hlt')
      obtain ⟨e1, e2⟩ := ab_get HM.out hlt hlt'
      rw [e1, e2] at hr2
      have HR1 := hid hr1
      have HR2 := hid hr2
      clear hc hc' hr1 hr2 e1 e2
      go_wp2_with fail
      (refine wp_region_calm (by kernel_rfl) (by kernel_rfl) ?_; (repeat' (first | go_big_quiet_step ((go_at_call 37; first | exact calm_of (l_eqIntS [M[k].a, M[k].b] _ _ _ _ _ (HR1.out.grew (by (repeat (first | with_reducible exact grew_refl _ | with_reducible assumption | with_reducible refine grew_split ?_ | with_reducible refine grew_mk ?_ | with_reducible refine grew_plus ?_ | with_reducible refine grew_alloc ?_ | with_reducible refine grew_drew ?_ | (with_reducible refine grew_set ?_ (by first | exact Nat.le_refl _ | omega | (simp [go_sem]; done) | (simp [go_sem]; omega))))))) (HR2.out.grew (by (repeat (first | with_reducible exact grew_refl _ | with_reducible assumption | with_reducible refine grew_split ?_ | with_reducible refine grew_mk ?_ | with_reducible refine grew_plus ?_ | with_reducible refine grew_alloc ?_ | with_reducible refine grew_drew ?_ | (with_reducible refine grew_set ?_ (by first | exact Nat.le_refl _ | omega | (simp [go_sem]; done) | (simp [go_sem]; omega))))))) (by simp [maxLen])) | exact calm_add (l_eqIntS [M[k].a, M[k].b] _ _ _ _ _ (HR1.out.grew (by (repeat (first | with_reducible exact grew_refl _ | with_reducible assumption | with_reducible refine grew_split ?_ | with_reducible refine grew_mk ?_ | with_reducible refine grew_plus ?_ | with_reducible refine grew_alloc ?_ | with_reducible refine grew_drew ?_ | (with_reducible refine grew_set ?_ (by first | exact Nat.le_refl _ | omega | (simp [go_sem]; done) | (simp [go_sem]; omega))))))) (HR2.out.grew (by (repeat (first | with_reducible exact grew_refl _ | with_reducible assumption | with_reducible refine grew_split ?_ | with_reducible refine grew_mk ?_ | with_reducible refine grew_plus ?_ | with_reducible refine grew_alloc ?_ | with_reducible refine grew_drew ?_ | (with_reducible refine grew_set ?_ (by first | exact Nat.le_refl _ | omega | (simp [go_sem]; done) | (simp [go_sem]; omega))))))) (by simp [maxLen])))) | (refine wpQuiet_step (fun K hK => ?_); go_simp; go_ite <;> go_simp <;> (first | (refine hK _ ?_; clear hK K) | (apply Exists.intro; refine ⟨fun _ => ?_, hK _ ?_⟩; ((go_at_call 37; first | exact calm_of (l_eqIntS [M[k].a, M[k].b] _ _ _ _ _ (HR1.out.grew (by (repeat (first | with_reducible exact grew_refl _ | with_reducible assumption | with_reducible refine grew_split ?_ | with_reducible refine grew_mk ?_ | with_reducible refine grew_plus ?_ | with_reducible refine grew_alloc ?_ | with_reducible refine grew_drew ?_ | (with_reducible refine grew_set ?_ (by first | exact Nat.le_refl _ | omega | (simp [go_sem]; done) | (simp [go_sem]; omega))))))) (HR2.out.grew (by (repeat (first | with_reducible exact grew_refl _ | with_reducible assumption | with_reducible refine grew_split ?_ | with_reducible refine grew_mk ?_ | with_reducible refine grew_plus ?_ | with_reducible refine grew_alloc ?_ | with_reducible refine grew_drew ?_ | (with_reducible refine grew_set ?_ (by first | exact Nat.le_refl _ | omega | (simp [go_sem]; done) | (simp [go_sem]; omega))))))) (by simp [maxLen])) | exact calm_add (l_eqIntS [M[k].a, M[k].b] _ _ _ _ _ (HR1.out.grew (by (repeat (first | with_reducible exact grew_refl _ | with_reducible assumption | with_reducible refine grew_split ?_ | with_reducible refine grew_mk ?_ | with_reducible refine grew_plus ?_ | with_reducible refine grew_alloc ?_ | with_reducible refine grew_drew ?_ | (with_reducible refine grew_set ?_ (by first | exact Nat.le_refl _ | omega | (simp [go_sem]; done) | (simp [go_sem]; omega))))))) (HR2.out.grew (by (repeat (first | with_reducible exact grew_refl _ | with_reducible assumption | with_reducible refine grew_split ?_ | with_reducible refine grew_mk ?_ | with_reducible refine grew_plus ?_ | with_reducible refine grew_alloc ?_ | with_reducible refine grew_drew ?_ | (with_reducible refine grew_set ?_ (by first | exact Nat.le_refl _ | omega | (simp [go_sem]; done) | (simp [go_sem]; omega))))))) (by simp [maxLen])))); clear hK K))))); all_goals (refine wpQuiet_nil ?_; intro _ hw'; obtain ⟨gq, hw''⟩ := hw'; subst hw''))
      go_wp2
      go_roundw
      case rel => exact ⟨k + 1, by omega, by go_num, by (repeat (first | with_reducible exact grew_refl _ | with_reducible assumption | with_reducible refine grew_split ?_ | with_reducible refine grew_mk ?_ | with_reducible refine grew_plus ?_ | with_reducible refine grew_alloc ?_ | with_reducible refine grew_drew ?_ | (with_reducible refine grew_set ?_ (by first | exact Nat.le_refl _ | omega | (simp [go_sem]; done) | (simp [go_sem]; omega)))))⟩
      case measure => simp [intOf]; omega
    · go_wp2
      go_ret
      exact ⟨rfl, by (repeat (first | with_reducible exact grew_refl _ | with_reducible assumption | with_reducible refine grew_split ?_ | with_reducible refine grew_mk ?_ | with_reducible refine grew_plus ?_ | with_reducible refine grew_alloc ?_ | with_reducible refine grew_drew ?_ | (with_reducible refine grew_set ?_ (by first | exact Nat.le_refl _ | omega | (simp [go_sem]; done) | (simp [go_sem]; omega)))))⟩
theorem OwnF.grown_ne {α : Type} {B s : Nat} {e : TypeId} {cells : α → List Value} {w w' : World} {g g' : Nat} {l : List α} (h : OwnF B e s cells w (some ⟨g, 0, none⟩) l) (hg : w.grownBy w' (some g')) (hne : g ≠ g') : OwnF B e s cells w' (some ⟨g, 0, none⟩) l := by
  rcases h with h | ⟨k, cs, he, hb, hB, hs, hF⟩
  · exact .inl h
  · injection he with he
    injection he with he
    subst he
    exact .inr ⟨g, cs, rfl, hb, hB.grown hg (fun e => by injection e with e; exact hne e), hs, hF⟩
theorem sl_ne {α : Type} {w w' : World} {s : Nat} {cells : α → List Value} {A : Option Addr} {l : List α} {g : Nat} (h : Sl w s cells A l) (hg : w.grownBy w' (some g)) (hne : ∀ a, A = some a → a.block ≠ g) : Sl w' s cells A l := by
  rcases h with h | ⟨b, off, hA, hlt, hc⟩
  · exact .inl h
  · have hb := hg.block b hlt (by intro e; injection e with e; exact hne _ hA e)
    exact .inr ⟨b, off, hA, Nat.lt_of_lt_of_le hlt hg.size, fun i hi j u hu => (World.cell?_of_block hb).trans (hc i hi j u hu)⟩
/-- The rows may be marked: each lies in a block of its own, apart from the list's. -/
structure PMark (lo hi : Nat) (w : World) (A : Option Addr) (M : List PairV) : Prop where
  own : OwnF lo 40 1 PairV.row w A M
  row : ∀ j (hj : j < M.length), OwnF lo 3 1 intRow w (some ⟨M[j].g, 0, none⟩) [M[j].a, M[j].b] ∧ lo ≤ M[j].g ∧ M[j].g < hi
  dis : ∀ i j (hi : i < M.length) (hj : j < M.length), M[i].g = M[j].g → i = j
  ne : ∀ p ∈ M, ∀ a, A = some a → a.block ≠ p.g
theorem PMark.read {lo hi : Nat} {w : World} {A : Option Addr} {M : List PairV} (h : PMark lo hi w A M) : PRead w A M :=
  ⟨h.own.sl, fun p hp => by obtain ⟨j, hj, rfl⟩ := List.mem_iff_getElem.1 hp; exact (h.row j hj).1.sl⟩
theorem PMark.grew {lo hi : Nat} {w w' : World} {A : Option Addr} {M : List PairV} (h : PMark lo hi w A M) (hg : ∃ g, w' = plus w g) : PMark lo hi w' A M :=
  ⟨h.own.grew hg, fun j hj => ⟨(h.row j hj).1.grew hg, (h.row j hj).2⟩, h.dis, h.ne⟩
theorem PMark.keptF {lo hi lo' hi' : Nat} {w w' : World} {A : Option Addr} {M : List PairV} (h : PMark lo hi w A M) (hk : KeptF lo' hi' w w') (hB : hi' ≤ lo) : PMark lo hi w' A M :=
  ⟨h.own.keptF hk hB, fun j hj => ⟨(h.row j hj).1.keptF hk hB, (h.row j hj).2⟩, h.dis, h.ne⟩
theorem marks2 (k : Int) : marksI k 2 = [k, k + 1] := by simp [marksI, List.range_succ]
/-- The rows hold the marks from m on. -/
def Marked (w : World) (M : List PairV) (m : Int) : Prop := ∀ j (hj : j < M.length), Sl w 1 intRow (some ⟨M[j].g, 0, none⟩) (marksI (m + 2 * (j : Int)) 2)
theorem Marked.grew {w w' : World} {M : List PairV} {m : Int} (h : Marked w M m) (hg : ∃ g, w' = plus w g) : Marked w' M m := fun j hj => (h j hj).grew hg
set_option maxHeartbeats 2000000 in
theorem l_markIntSS (lo hi : Nat) (M : List PairV) (A : Option Addr) (c : Nat) (m : Int) (w : World) (hM : PMark lo hi w A M) (hl : M.length ≤ 1000) (h0 : 0 ≤ m) (h1 : m ≤ 1000) :
    Calls Try.prog 12 #[.slice A M.length c, .int .i64 m] w fun e' w' => e' = .returned (.int .i64 (m + 2 * (M.length : Int))) ∧ Sl w' 1 PairV.row A M ∧ Marked w' M m ∧ KeptF lo hi w w' := by
  have HD := hid hM.dis
  have HN := hid hM.ne
  have HR := hid hM.row
  have HS := hid hM.own.sl
  clear hM
  go_enter Try.func12, Try.ntmps12
  go_wp2_with fail
  go_loopw [1, 5] (fun q i wr => ∃ k : Nat, k ≤ M.length ∧ i = .int .i64 k ∧ q = .int .i64 (m + 2 * (k : Int)) ∧ Sl wr 1 PairV.row A M ∧ Hid (∀ j (hj : j < M.length), OwnF lo 3 1 intRow wr (some ⟨M[j].g, 0, none⟩) (if j < k then marksI (m + 2 * (j : Int)) 2 else [M[j].a, M[j].b])) ∧ KeptF lo hi w wr) (fun _ i _ => M.length - (intOf i).toNat)
  case atStart => exact ⟨0, Nat.zero_le _, rfl, by simp, HS.out, hid (fun j hj => by rw [if_neg (by omega)]; exact (HR.out j hj).1), KeptF.refl _ _ _⟩
  case round =>
    obtain ⟨k, hk, rfl, rfl, hsl, HOW, hkp⟩ := hrel
    have HSL := hid hsl
    have HKP := hid hkp
    clear hkp
    by_cases hlt : k < M.length
    · obtain ⟨b, off, rfl, hb, hc⟩ := hsl.at_ hlt
      have hc0 := pcells hc hlt
      clear hc hsl
      have hrow := HOW.out k hlt
      rw [if_neg (by omega)] at hrow
      have HROW := hid hrow
      clear hrow
      go_wp2_with fail
      refine (l_markIntS lo [M[k].a, M[k].b] _ _ _ _ (HROW.out.grew (by (repeat (first | with_reducible exact grew_refl _ | with_reducible assumption | with_reducible refine grew_split ?_ | with_reducible refine grew_mk ?_ | with_reducible refine grew_plus ?_ | with_reducible refine grew_alloc ?_ | with_reducible refine grew_drew ?_ | (with_reducible refine grew_set ?_ (by first | exact Nat.le_refl _ | omega | (simp [go_sem]; done) | (simp [go_sem]; omega))))))) (by simp) (by omega) (by omega)).mono ?_
      rintro e w' ⟨rfl, hO, hG⟩
      have hG2 : wr.grownBy w' (some M[k].g) := by
        have e : rowOf (some (⟨M[k].g, 0, none⟩ : Addr)) [M[k].a, M[k].b] = some M[k].g := rfl
        rw [e] at hG
        exact (grown_of_grew (by (repeat (first | with_reducible exact grew_refl _ | with_reducible assumption | with_reducible refine grew_split ?_ | with_reducible refine grew_mk ?_ | with_reducible refine grew_plus ?_ | with_reducible refine grew_alloc ?_ | with_reducible refine grew_drew ?_ | (with_reducible refine grew_set ?_ (by first | exact Nat.le_refl _ | omega | (simp [go_sem]; done) | (simp [go_sem]; omega)))))) _).trans hG
      have HO := hid hO
      have HG := hid hG2
      clear hO hG hG2
      go_wp2
      go_roundw
      case rel =>
        refine ⟨k + 1, by omega, by go_num, by simp; omega, sl_ne HSL.out HG.out (HN.out M[k] (List.getElem_mem hlt)), hid ?_, HKP.out.grown HG.out (fun q hq => by injection hq with hq; subst hq; exact (HR.out k hlt).2)⟩
        intro j hj
        by_cases e : j = k
        · subst e
          rw [if_pos (by omega)]
          exact HO.out
        · have h := (HOW.out j hj).grown_ne HG.out (fun h => e (HD.out j k hj hlt h))
          by_cases hjk : j < k
          · rw [if_pos (by omega)]; rwa [if_pos hjk] at h
          · rw [if_neg (by omega)]; rwa [if_neg hjk] at h
      case measure => simp [intOf]; omega
    · obtain rfl : k = M.length := by omega
      clear hsl
      go_wp2
      go_ret
      exact ⟨rfl, HSL.out, fun j hj => by have h := HOW.out j hj; rw [if_pos hj] at h; exact h.sl, HKP.out⟩
set_option maxHeartbeats 1000000 in
theorem l_heldIntSS (M : List PairV) (A : Option Addr) (c : Nat) (m : Int) (w : World) (hA : Sl w 1 PairV.row A M) (hm : Marked w M m) (hl : M.length ≤ 1000) (h0 : 0 ≤ m) (h1 : m ≤ 1000) :
    Calls Try.prog 13 #[.slice A M.length c, .int .i64 m] w fun e' w' => e' = .returned (.int .i64 (m + 2 * (M.length : Int))) ∧ ∃ g, w' = plus w g := by
  have HM := hid hm
  clear hm
  go_enter Try.func13, Try.ntmps13
  go_wp2_with fail
  go_loopw [1, 5] (fun q i wr => ∃ k : Nat, k ≤ M.length ∧ i = .int .i64 k ∧ q = .int .i64 (m + 2 * (k : Int)) ∧ (∃ g, wr = plus w g)) (fun _ i _ => M.length - (intOf i).toNat)
  case atStart => exact ⟨0, Nat.zero_le _, rfl, by simp, _, plus_refl _⟩
  case round =>
    obtain ⟨k, hk, rfl, rfl, g, rfl⟩ := hrel
    by_cases hlt : k < M.length
    · obtain ⟨b, off, rfl, hb, hc⟩ := hA.at_ hlt
      have hc0 := pcells hc hlt
      have HR := hid (HM.out k hlt)
      clear hc hA
      go_wp2_with fail
      refine (l_heldIntS 2 _ _ _ _ (HR.out.grew (by (repeat (first | with_reducible exact grew_refl _ | with_reducible assumption | with_reducible refine grew_split ?_ | with_reducible refine grew_mk ?_ | with_reducible refine grew_plus ?_ | with_reducible refine grew_alloc ?_ | with_reducible refine grew_drew ?_ | (with_reducible refine grew_set ?_ (by first | exact Nat.le_refl _ | omega | (simp [go_sem]; done) | (simp [go_sem]; omega))))))) (by omega) (by omega) (by omega)).mono ?_
      (rintro e w' ⟨rfl, gx, rfl⟩)
      go_wp2
      go_roundw
      case rel => exact ⟨k + 1, by omega, by go_num, by simp; omega, by (repeat (first | with_reducible exact grew_refl _ | with_reducible assumption | with_reducible refine grew_split ?_ | with_reducible refine grew_mk ?_ | with_reducible refine grew_plus ?_ | with_reducible refine grew_alloc ?_ | with_reducible refine grew_drew ?_ | (with_reducible refine grew_set ?_ (by first | exact Nat.le_refl _ | omega | (simp [go_sem]; done) | (simp [go_sem]; omega)))))⟩
      case measure => simp [intOf]; omega
    · obtain rfl : k = M.length := by omega
      clear hA
      go_wp2
      go_ret
      exact ⟨rfl, by (repeat (first | with_reducible exact grew_refl _ | with_reducible assumption | with_reducible refine grew_split ?_ | with_reducible refine grew_mk ?_ | with_reducible refine grew_plus ?_ | with_reducible refine grew_alloc ?_ | with_reducible refine grew_drew ?_ | (with_reducible refine grew_set ?_ (by first | exact Nat.le_refl _ | omega | (simp [go_sem]; done) | (simp [go_sem]; omega)))))⟩
/-! The plain value. -/
def tenOf (l : List PhaseR) : List Int := l.map (·.tenths)
def alikeB (a b : LightC) : Bool := decide (tenOf a.ph = tenOf b.ph)
def nearB (a b : LightC) : Bool := decide (sqI a.x a.y b.x b.y ≤ (a.range + b.range) * (a.range + b.range))
def pairB (a b : LightC) : Bool := alikeB a b && nearB a b
/-- The pairs of light i with the m lights behind it. -/
def pairsIn (L : List LightV) (i : Nat) : Nat → List (Int × Int)
  | 0 => []
  | m + 1 => pairsIn L i m ++ (if h : i + 1 + m < L.length then (if pairB L[i].core L[i + 1 + m].core then [(L[i].core.id, L[i + 1 + m].core.id)] else []) else [])
def pairsTo (L : List LightV) : Nat → List (Int × Int)
  | 0 => []
  | i + 1 => pairsTo L i ++ pairsIn L i (L.length - (i + 1))
def pairsF (L : List LightV) : List (Int × Int) × Bool := if lightsB L then (pairsTo L L.length, true) else ([], false)
theorem Alike.pairsIn {L M : List LightV} (h : Alike L M) (i : Nat) : ∀ m, pairsIn L i m = Go.Proofs.Ytjlaidjogladaaa.pairsIn M i m := by
  intro m
  induction m with
  | zero => rfl
  | succ m ih =>
    have hl := h.1
    simp only [Go.Proofs.Ytjlaidjogladaaa.pairsIn, ih]
    congr 1
    by_cases hi : i + 1 + m < L.length
    · have hi' : i + 1 + m < M.length := by omega
      simp only [hi, hi', ↓reduceDIte, h.2 i (by omega) (by omega), h.2 (i + 1 + m) hi hi']
    · have hi' : ¬ i + 1 + m < M.length := by omega
      simp only [hi, hi', ↓reduceDIte]
theorem Alike.pairsTo {L M : List LightV} (h : Alike L M) : ∀ i, pairsTo L i = Go.Proofs.Ytjlaidjogladaaa.pairsTo M i := by
  intro i
  induction i with
  | zero => rfl
  | succ i ih => simp only [Go.Proofs.Ytjlaidjogladaaa.pairsTo, ih, h.pairsIn, h.1]
theorem Alike.pairsF {L M : List LightV} (h : Alike L M) : pairsF L = Go.Proofs.Ytjlaidjogladaaa.pairsF M := by
  simp only [Go.Proofs.Ytjlaidjogladaaa.pairsF, h.good, h.pairsTo, h.1]
theorem pairsIn_len (L : List LightV) (i : Nat) : ∀ m, (pairsIn L i m).length ≤ m := by
  intro m
  induction m with
  | zero => simp [pairsIn]
  | succ m ih =>
    simp only [pairsIn, List.length_append]
    split
    · split <;> simp <;> omega
    · simp; omega
theorem pairsTo_len (L : List LightV) (hl : L.length ≤ 10) : ∀ i, (pairsTo L i).length ≤ 10 * i := by
  intro i
  induction i with
  | zero => simp [pairsTo]
  | succ i ih =>
    simp only [pairsTo, List.length_append]
    have := pairsIn_len L i (L.length - (i + 1))
    omega
theorem pairsF_len (L : List LightV) : (pairsF L).1.length ≤ 100 := by
  unfold pairsF
  split
  · rename_i h
    have h10 := lights_lenS h
    have := pairsTo_len L h10 L.length
    simp only
    omega
  · simp
theorem pairsIn_yes {L : List LightV} {i m : Nat} (h : i + 1 + m < L.length) (hp : pairB L[i].core L[i + 1 + m].core = true) : pairsIn L i (m + 1) = pairsIn L i m ++ [(L[i].core.id, L[i + 1 + m].core.id)] := by simp [pairsIn, h, hp]
theorem pairsIn_no {L : List LightV} {i m : Nat} (h : i + 1 + m < L.length) (hp : pairB L[i].core L[i + 1 + m].core = false) : pairsIn L i (m + 1) = pairsIn L i m := by simp [pairsIn, h, hp]
end Go.Proofs.Ytjlaidjogladaaa
