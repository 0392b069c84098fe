import Derived.Test.YtecghfcgahgfiaaGreatDoorP8
/- Reading the records of a text, in both packages. -/
namespace Go.Proofs.YtecghfcgahgfiaaGreatDoor
open Go.RowKit

theorem rec_info : (Tryz.prog.info? 40).map (fun i => (i.zero, i.size, i.bytes)) = some (some (.agg #[.string ByteArray.empty, .string ByteArray.empty]), 2, 32) := by kernel_rfl
theorem RecR.row_len (e : RecR) : e.row.length = 2 := rfl
theorem RecR.one (e : RecR) : ∀ u ∈ e.row, u.oneCell' = true := by
  intro u hu
  simp [RecR.row] at hu
  rcases hu with rfl | rfl <;> rfl
/-- Lists of elements of different types lie apart. -/
theorem Own.keptO {α β : Type} {B B' : Nat} {e e' : TypeId} {s s' : Nat} {cells : α → List Value} {cells' : β → List Value} {w w' : World} {A A' : Option Addr} {c c' n d : Nat} {l : List α} {l' : List β} (h : Own B e s cells w A c l) (h2 : Own B' e' s' cells' w A' c' l') (hne : e ≠ e') (hg : w.grownBy w' (Value.slice A' n d).ownBlock) : Own B e s cells w' A c l := by
  refine World.ownsRow.kept h hg ?_
  cases hv : (Value.slice A l.length c).ownBlock with
  | none => exact .inl rfl
  | some k =>
    right
    intro hk
    obtain ⟨a1, e1, e2⟩ := own_some hv
    obtain ⟨a2, e3, e4⟩ := own_some hk.symm
    rcases h.2 with ⟨q1, _⟩ | ⟨g, cap, cur, q1, _, q2, _⟩
    · injection q1 with q1; rw [q1] at e1; cases e1
    rcases h2.2 with ⟨r1, _⟩ | ⟨g', cap', cur', r1, _, r2, _⟩
    · injection r1 with r1; rw [r1] at e3; cases e3
    injection q1 with q1
    injection r1 with r1
    rw [q1] at e1
    rw [r1] at e3
    injection e1 with e1
    injection e3 with e3
    have hgg : g = g' := by rw [← e1] at e2; rw [← e3] at e4; simp only at e2 e4; omega
    rw [hgg, r2] at q2
    injection q2 with q2
    injection q2 with _ q3
    exact hne q3.symm
def recsL (L : List (RecR × Nat)) (k : Nat) : List RecR := (L.take k).map (·.1)
def endsL (L : List (RecR × Nat)) (k : Nat) : List Int := (List.range (k + 1)).map fun j => ((endAt L j : Nat) : Int)
theorem recsL_len {L : List (RecR × Nat)} {k : Nat} (h : k ≤ L.length) : (recsL L k).length = k := by simp [recsL]; omega
theorem endsL_len (L : List (RecR × Nat)) (k : Nat) : (endsL L k).length = k + 1 := by simp [endsL]
theorem recsL_succ {L : List (RecR × Nat)} {k : Nat} (h : k < L.length) : recsL L (k + 1) = recsL L k ++ [L[k].1] := by
  unfold recsL; rw [List.take_succ_eq_append_getElem h, List.map_append]; rfl
theorem endsL_succ (L : List (RecR × Nat)) (k : Nat) : endsL L (k + 1) = endsL L k ++ [((endAt L (k + 1) : Nat) : Int)] := by
  unfold endsL; rw [List.range_succ, List.map_append]; rfl
theorem bl_from (s : ByteArray) (i : Nat) : bl (s.extract i s.size) = (bl s).drop i := by
  rw [bl_extract]
  exact List.take_of_length_le (by rw [List.length_drop, bl_len]; omega)
theorem head_at {s : Bytes} {k : Nat} (h : k < (opensF s).length) : headV (s.drop (endAt (opensF s) k)) k = ((opensF s)[k].1, (((opensF s)[k].2 : Nat) : Int), true) := by
  unfold headV
  rw [opensF_get s (Nat.le_of_lt h), List.getElem?_eq_getElem h]
theorem head_end (s : Bytes) : headV (s.drop (endAt (opensF s) (opensF s).length)) (opensF s).length = (noRec, 0, false) := by
  unfold headV
  rw [opensF_get s (Nat.le_refl _), List.getElem?_eq_none (Nat.le_refl _)]
theorem Own.one_ {B : Nat} {e : TypeId} {w w' : World} {b : Nat} {x : Int} (hg : ∃ g, w' = plus (w.alloc (.cells #[.int .i64 x] e)) g) (hb : b = w.heap.size) (hB : B ≤ w.heap.size) : Own B e 1 intRow w' (some ⟨b, 0, none⟩) 1 [x] := by
  refine Own.grew (w := w.alloc (.cells #[.int .i64 x] e)) ?_ hg
  subst hb
  exact ⟨rfl, .inr ⟨_, 1, _, rfl, hB, heap_alloc_new w _, Nat.le_refl _, by unfold maxLen; omega, rfl, rfl⟩⟩
def slLen8 : Value → Nat
  | .slice _ n _ => n
  | _ => 0
set_option maxHeartbeats 4000000 in
set_option maxRecDepth 10000 in
theorem i_readRecords (s : ByteArray) (w : World) (hs : s.size ≤ 4194304) (hE : Env w) :
    Calls Tryz.prog 44 #[.string s] w fun e w' => (∃ A c A' c', e = .returned (.tuple #[.slice A (opensF (bl s)).length c, .slice A' ((opensF (bl s)).length + 1) c']) ∧ Own w.heap.size 40 2 RecR.row w' A c (recsL (opensF (bl s)) (opensF (bl s)).length) ∧ Own w.heap.size 3 1 intRow w' A' c' (endsL (opensF (bl s)) (opensF (bl s)).length)) ∧ ∃ g, w' = plus w g := by
  have HE := hid hE
  clear hE
  obtain ⟨L, hL⟩ : ∃ L, L = opensF (bl s) := ⟨_, rfl⟩
  rw [← hL]
  have hl60 : L.length ≤ 60 := by rw [hL]; exact opensF_len _
  have HM : Hid (∀ x ∈ L, x.1.ok = true ∧ 0 < x.2 ∧ x.2 ≤ 372) := hid (by rw [hL]; exact opens_mem 61 _ 0)
  have HX : Hid (∀ k, endAt L k ≤ s.size) := hid (fun k => by
    have h1 := endAt_mono L k
    have h2 := (opensF_end (bl s)).1
    rw [← hL, bl_len] at h2
    omega)
  have HA : Hid (∀ k, (hk : k < L.length) → headV (bl (s.extract (endAt L k) s.size)) k = (L[k].1, ((L[k].2 : Nat) : Int), true)) := hid (fun k hk => by
    rw [bl_from]; subst hL; exact head_at hk)
  have HZ : Hid (headV (bl (s.extract (endAt L L.length) s.size)) L.length = (noRec, 0, false)) := hid (by
    rw [bl_from]; subst hL; exact head_end _)
  clear hL
  go_enter Tryz.func44, Tryz.ntmps44
  go_wp2_with fail
  go_loopw [4, 5, 6] (fun o f i wr => ∃ (k : Nat) (A : Option Addr) (c : Nat) (A' : Option Addr) (c' : Nat), k ≤ L.length ∧ o = .slice A k c ∧ f = .slice A' (k + 1) c' ∧ i = .int .i64 (endAt L k) ∧ Own w.heap.size 40 2 RecR.row wr A c (recsL L k) ∧ Own w.heap.size 3 1 intRow wr A' c' (endsL L k) ∧ ∃ g, wr = plus w g) (fun o _ _ _ => 61 - slLen8 o)
  case atStart => exact ⟨0, _, _, _, _, Nat.zero_le _, rfl, rfl, rfl, Own.newIn (o := .cells #[] 40) (by (repeat (first | with_reducible exact grew_refl _ | with_reducible assumption | with_reducible refine grew_split ?_ | with_reducible refine grew_mk ?_ | with_reducible refine grew_plus ?_ | with_reducible refine grew_alloc ?_ | with_reducible refine grew_drew ?_ | (with_reducible refine grew_set ?_ (by first | exact Nat.le_refl _ | omega | (simp [go_sem]; done) | (simp [go_sem]; omega)))))) rfl rfl (Nat.le_refl _), (show Own w.heap.size 3 1 intRow _ _ 1 [0] from Own.one_ (w := w.alloc (.cells #[] 40)) (grew_refl _) (by simp) (by simp)), by (repeat (first | with_reducible exact grew_refl _ | with_reducible assumption | with_reducible refine grew_split ?_ | with_reducible refine grew_mk ?_ | with_reducible refine grew_plus ?_ | with_reducible refine grew_alloc ?_ | with_reducible refine grew_drew ?_ | (with_reducible refine grew_set ?_ (by first | exact Nat.le_refl _ | omega | (simp [go_sem]; done) | (simp [go_sem]; omega)))))⟩
  case round =>
    obtain ⟨k, A, c, A', c', hk, rfl, rfl, rfl, hO, hO', hg⟩ := hrel
    have HO := hid hO
    have HO' := hid hO'
    have HG := hid hg
    have he0 := HX.out k
    have rl := recsL_len hk
    have el := endsL_len L k
    have RL := hid rl
    have EL := hid el
    clear hO hO' hg rl el
    by_cases hlt : k < L.length
    · have he1 := HX.out (k + 1)
      have HS := hid (endAt_succ hlt)
      have HR := hid (recsL_succ hlt)
      have HF := hid (endsL_succ L k)
      obtain ⟨m1, m2, m3⟩ := HM.out _ (List.getElem_mem hlt)
      clear m1
      have hg := HG.out
      go_wp2_with fail
      refine (i_readRecord (s.extract (endAt L k) s.size) k _ (HA.out k hlt) _ (by rw [ByteArray.size_extract]; omega) (by omega) (HE.out.grew (by (repeat (first | with_reducible exact grew_refl _ | with_reducible assumption | with_reducible refine grew_split ?_ | with_reducible refine grew_mk ?_ | with_reducible refine grew_plus ?_ | with_reducible refine grew_alloc ?_ | with_reducible refine grew_drew ?_ | (with_reducible refine grew_set ?_ (by first | exact Nat.le_refl _ | omega | (simp [go_sem]; done) | (simp [go_sem]; omega)))))))).mono ?_
      (rintro e w' ⟨rfl, gx, rfl⟩)
      simp only
      go_wp2_with (first
        | (at_builtin; refine wpList_appB (B := w.heap.size) rfl _ _ _ rfl 40 2 32 _ Tryz.underlying36 rec_info rfl (by omega) (by omega) A c (recsL L k) k RL.out.symm rfl (HO.out.grew (by (repeat (first | with_reducible exact grew_refl _ | with_reducible assumption | with_reducible refine grew_split ?_ | with_reducible refine grew_mk ?_ | with_reducible refine grew_plus ?_ | with_reducible refine grew_alloc ?_ | with_reducible refine grew_drew ?_ | (with_reducible refine grew_set ?_ (by first | exact Nat.le_refl _ | omega | (simp [go_sem]; done) | (simp [go_sem]; omega))))))) ?_ ?_ _ L[k].1 _ rfl rfl ?_ (RecR.one _) ?_; (· (have h := (below_of_grew hg).size; first | (simp [go_sem]; done) | (simp [go_sem]; omega) | omega)); (· (rw [RL.out]; omega)); (· (intro j u hj; match j, hj with | 0, hj => (simp [RecR.row] at hj; subst hj; simp [Addr.add, go_sem]) | 1, hj => (simp [RecR.row] at hj; subst hj; simp [Addr.add, go_sem]))); intro A1 c1 w1 hO1 hg1 hat1; have HO1 := hid hO1; have HO2 := hid (Own.keptO (HO'.out.grew (by (repeat (first | with_reducible exact grew_refl _ | with_reducible assumption | with_reducible refine grew_split ?_ | with_reducible refine grew_mk ?_ | with_reducible refine grew_plus ?_ | with_reducible refine grew_alloc ?_ | with_reducible refine grew_drew ?_ | (with_reducible refine grew_set ?_ (by first | exact Nat.le_refl _ | omega | (simp [go_sem]; done) | (simp [go_sem]; omega))))))) (HO.out.grew (by (repeat (first | with_reducible exact grew_refl _ | with_reducible assumption | with_reducible refine grew_split ?_ | with_reducible refine grew_mk ?_ | with_reducible refine grew_plus ?_ | with_reducible refine grew_alloc ?_ | with_reducible refine grew_drew ?_ | (with_reducible refine grew_set ?_ (by first | exact Nat.le_refl _ | omega | (simp [go_sem]; done) | (simp [go_sem]; omega))))))) (by decide) hg1); have hgw := grew_own (w0 := w) (by (repeat (first | with_reducible exact grew_refl _ | with_reducible assumption | with_reducible refine grew_split ?_ | with_reducible refine grew_mk ?_ | with_reducible refine grew_plus ?_ | with_reducible refine grew_alloc ?_ | with_reducible refine grew_drew ?_ | (with_reducible refine grew_set ?_ (by first | exact Nat.le_refl _ | omega | (simp [go_sem]; done) | (simp [go_sem]; omega)))))) hg1 (fun a ha => (HO.out.ne a ha).1); clear hO1 hg1 hat1)
        | (at_builtin; refine wpList_appB (B := w.heap.size) rfl _ _ _ rfl 3 1 8 _ Tryz.underlying47 int_info rfl (by omega) (by omega) A' c' (endsL L k) (k + 1) EL.out.symm rfl (HO2.out.grew (by (repeat (first | with_reducible exact grew_refl _ | with_reducible assumption | with_reducible refine grew_split ?_ | with_reducible refine grew_mk ?_ | with_reducible refine grew_plus ?_ | with_reducible refine grew_alloc ?_ | with_reducible refine grew_drew ?_ | (with_reducible refine grew_set ?_ (by first | exact Nat.le_refl _ | omega | (simp [go_sem]; done) | (simp [go_sem]; omega))))))) ?_ ?_ _ ((endAt L k : Int) + (L[k].2 : Int)) _ rfl rfl ?_ ?_ ?_; (· (have h := (below_of_grew hgw).size; first | (simp [go_sem]; done) | (simp [go_sem]; omega) | omega)); (· (rw [EL.out]; omega)); (· (intro j u hj; match j, hj with | 0, hj => (simp [intRow] at hj; subst hj; simp [Addr.add, go_sem]))); (· simp [intRow, Value.oneCell']); intro A2 c2 w2 hO3 hg2 hat2; have HO3 := hid hO3; have HO4 := hid (Own.keptO (HO1.out.grew (by (repeat (first | with_reducible exact grew_refl _ | with_reducible assumption | with_reducible refine grew_split ?_ | with_reducible refine grew_mk ?_ | with_reducible refine grew_plus ?_ | with_reducible refine grew_alloc ?_ | with_reducible refine grew_drew ?_ | (with_reducible refine grew_set ?_ (by first | exact Nat.le_refl _ | omega | (simp [go_sem]; done) | (simp [go_sem]; omega))))))) (HO2.out.grew (by (repeat (first | with_reducible exact grew_refl _ | with_reducible assumption | with_reducible refine grew_split ?_ | with_reducible refine grew_mk ?_ | with_reducible refine grew_plus ?_ | with_reducible refine grew_alloc ?_ | with_reducible refine grew_drew ?_ | (with_reducible refine grew_set ?_ (by first | exact Nat.le_refl _ | omega | (simp [go_sem]; done) | (simp [go_sem]; omega))))))) (by decide) hg2); have hgw2 := grew_own (w0 := w) (by (repeat (first | with_reducible exact grew_refl _ | with_reducible assumption | with_reducible refine grew_split ?_ | with_reducible refine grew_mk ?_ | with_reducible refine grew_plus ?_ | with_reducible refine grew_alloc ?_ | with_reducible refine grew_drew ?_ | (with_reducible refine grew_set ?_ (by first | exact Nat.le_refl _ | omega | (simp [go_sem]; done) | (simp [go_sem]; omega)))))) hg2 (fun a ha => (HO2.out.ne a ha).1); clear hO3 hg2 hat2))
      go_roundw
      case rel => exact ⟨k + 1, A1, c1, A2, c2, by omega, rfl, rfl, by rw [HS.out]; go_num, by rw [HR.out]; exact HO4.out, by rw [HF.out, HS.out]; exact HO3.out, hgw2⟩
      case measure => simp [slLen8]; omega
    · obtain rfl : k = L.length := by omega
      have hg := HG.out
      go_wp2_with fail
      refine (i_readRecord (s.extract (endAt L L.length) s.size) L.length _ HZ.out _ (by rw [ByteArray.size_extract]; omega) (by omega) (HE.out.grew (by (repeat (first | with_reducible exact grew_refl _ | with_reducible assumption | with_reducible refine grew_split ?_ | with_reducible refine grew_mk ?_ | with_reducible refine grew_plus ?_ | with_reducible refine grew_alloc ?_ | with_reducible refine grew_drew ?_ | (with_reducible refine grew_set ?_ (by first | exact Nat.le_refl _ | omega | (simp [go_sem]; done) | (simp [go_sem]; omega)))))))).mono ?_
      (rintro e w' ⟨rfl, gx, rfl⟩)
      simp only
      go_wp2_with fail
      go_ret2
      exact ⟨⟨A, c, A', c', rfl, HO.out.grew (by (repeat (first | with_reducible exact grew_refl _ | with_reducible assumption | with_reducible refine grew_split ?_ | with_reducible refine grew_mk ?_ | with_reducible refine grew_plus ?_ | with_reducible refine grew_alloc ?_ | with_reducible refine grew_drew ?_ | (with_reducible refine grew_set ?_ (by first | exact Nat.le_refl _ | omega | (simp [go_sem]; done) | (simp [go_sem]; omega)))))), HO'.out.grew (by (repeat (first | with_reducible exact grew_refl _ | with_reducible assumption | with_reducible refine grew_split ?_ | with_reducible refine grew_mk ?_ | with_reducible refine grew_plus ?_ | with_reducible refine grew_alloc ?_ | with_reducible refine grew_drew ?_ | (with_reducible refine grew_set ?_ (by first | exact Nat.le_refl _ | omega | (simp [go_sem]; done) | (simp [go_sem]; omega))))))⟩, by (repeat (first | with_reducible exact grew_refl _ | with_reducible assumption | with_reducible refine grew_split ?_ | with_reducible refine grew_mk ?_ | with_reducible refine grew_plus ?_ | with_reducible refine grew_alloc ?_ | with_reducible refine grew_drew ?_ | (with_reducible refine grew_set ?_ (by first | exact Nat.le_refl _ | omega | (simp [go_sem]; done) | (simp [go_sem]; omega)))))⟩
theorem head_split {s : Bytes} {k : Nat} {e : RecR} {n : Nat} (h : headB s k = some (e, n)) : (cutB 10 s).2.2 = true ∧ recAt (cutB 10 s).1 k = some e ∧ n = (cutB 10 s).1.length + 1 := by
  unfold headB at h
  split at h
  · rename_i hc
    simp only [Bool.and_eq_true, decide_eq_true_eq] at hc
    cases hr : recAt (cutB 10 s).1 k with
    | none => rw [hr] at h; cases h
    | some e' =>
      rw [hr] at h
      simp only [Option.map_some, Option.some.injEq, Prod.mk.injEq] at h
      obtain ⟨rfl, rfl⟩ := h
      exact ⟨hc.1, rfl, rfl⟩
  · cases h
theorem head_split_none {s : Bytes} {k : Nat} (h : headB s k = none) (hk : k < 60) : (cutB 10 s).2.2 = false ∨ recAt (cutB 10 s).1 k = none := by
  unfold headB at h
  cases hf : (cutB 10 s).2.2
  · exact .inl rfl
  · right
    rw [hf] at h
    simp only [Bool.true_and, hk, decide_true, if_true] at h
    cases hr : recAt (cutB 10 s).1 k with
    | none => rfl
    | some e => rw [hr] at h; cases h
theorem headB_nil (k : Nat) : headB [] k = none := by unfold headB; simp [cutB]
set_option maxHeartbeats 4000000 in
set_option maxRecDepth 10000 in
theorem s_l27Open (s : ByteArray) (w : World) (hs : s.size ≤ 4194304) :
    Calls Tryz.prog 86 #[.string s] w fun e w' => (∃ A c, e = .returned (.tuple #[.slice A (opensF (bl s)).length c, .int .i64 (endOf (opensF (bl s)))]) ∧ Own w.heap.size 40 2 RecR.row w' A c (recsL (opensF (bl s)) (opensF (bl s)).length)) ∧ ∃ g, w' = plus w g := by
  obtain ⟨L, hL⟩ : ∃ L, L = opensF (bl s) := ⟨_, rfl⟩
  rw [← hL]
  have hl60 : L.length ≤ 60 := by rw [hL]; exact opensF_len _
  have HX : Hid (∀ k, endAt L k ≤ s.size) := hid (fun k => by
    have h1 := endAt_mono L k
    have h2 := (opensF_end (bl s)).1
    rw [← hL, bl_len] at h2
    omega)
  have HA : Hid (∀ k, (hk : k < L.length) → headB (bl (s.extract (endAt L k) s.size)) k = some (L[k].1, L[k].2)) := hid (fun k hk => by
    rw [bl_from]; subst hL; rw [opensF_get _ (Nat.le_of_lt hk), List.getElem?_eq_getElem hk])
  have HZ : Hid (headB (bl (s.extract (endAt L L.length) s.size)) L.length = none) := hid (by
    rw [bl_from]; subst hL; rw [opensF_get _ (Nat.le_refl _), List.getElem?_eq_none (Nat.le_refl _)])
  clear hL
  go_enter Tryz.func86, Tryz.ntmps86
  go_wp2_with fail
  go_loopw [4, 5] (fun o i wr => ∃ (k : Nat) (A : Option Addr) (c : Nat), k ≤ L.length ∧ o = .slice A k c ∧ i = .int .i64 (endAt L k) ∧ Own w.heap.size 40 2 RecR.row wr A c (recsL L k) ∧ ∃ g, wr = plus w g) (fun o _ _ => 61 - slLen8 o)
  case atStart => exact ⟨0, _, _, Nat.zero_le _, rfl, rfl, Own.newIn (o := .cells #[] 40) (by (repeat (first | with_reducible exact grew_refl _ | with_reducible assumption | with_reducible refine grew_split ?_ | with_reducible refine grew_mk ?_ | with_reducible refine grew_plus ?_ | with_reducible refine grew_alloc ?_ | with_reducible refine grew_drew ?_ | (with_reducible refine grew_set ?_ (by first | exact Nat.le_refl _ | omega | (simp [go_sem]; done) | (simp [go_sem]; omega)))))) rfl rfl (Nat.le_refl _), by (repeat (first | with_reducible exact grew_refl _ | with_reducible assumption | with_reducible refine grew_split ?_ | with_reducible refine grew_mk ?_ | with_reducible refine grew_plus ?_ | with_reducible refine grew_alloc ?_ | with_reducible refine grew_drew ?_ | (with_reducible refine grew_set ?_ (by first | exact Nat.le_refl _ | omega | (simp [go_sem]; done) | (simp [go_sem]; omega)))))⟩
  case round =>
    obtain ⟨k, A, c, hk, rfl, rfl, hO, hg⟩ := hrel
    have HO := hid hO
    have HG := hid hg
    have he0 := HX.out k
    have RL := hid (recsL_len hk)
    obtain ⟨t, ht⟩ : ∃ t, t = s.extract (endAt L k) s.size := ⟨_, rfl⟩
    have ht4 : t.size ≤ 4194304 := by rw [ht, ByteArray.size_extract]; omega
    obtain ⟨r1, h1, h2⟩ := split_head t 10
    obtain ⟨u, hu⟩ : ∃ u, u = mk (cutB 10 (bl t)).1 := ⟨_, rfl⟩
    have hu4 : u.size ≤ 4194304 := by rw [hu, mk_size]; have := cutB_len 10 (bl t); have := bl_len t; omega
    have h1' : splitV t 10 = u :: r1 := h1.trans (by rw [hu])
    have hub : (cutB 10 (bl t)).1 = bl u := by rw [hu]
    have hlen : (splitV t 10).length = r1.length + 1 := by rw [h1']; rfl
    have H1 := hid h1'
    have H2 := hid h2
    have HB := hid hub
    have HLN := hid hlen
    clear hO hg h1 h1' h2 hub hlen hu
    by_cases hlt : k < L.length
    · have hA := HA.out k hlt
      rw [← ht] at hA
      obtain ⟨q1, q2, q3⟩ := head_split hA
      rw [HB.out] at q2 q3
      have hr1 : 1 ≤ r1.length := by
        rcases r1 with _ | ⟨a, r⟩
        · rw [H2.out.1 rfl] at q1; cases q1
        · simp
      have hen : endAt L k < s.size := by
        rcases Nat.lt_or_ge (endAt L k) s.size with h | h
        · exact h
        · have hz : bl t = [] := by rw [ht, bl_from]; exact List.drop_of_length_le (by rw [bl_len]; exact h)
          rw [hz, headB_nil] at hA; cases hA
      have HS := hid (endAt_succ hlt)
      have HR := hid (recsL_succ hlt)
      have HQ := hid q2
      have HN := hid q3
      have hg := HG.out
      have hki : (k : Int) < 60 := by omega
      have hr2 : (1 : Int) ≤ (r1.length : Int) := by omega
      clear hA q1 q2 q3
      go_wp2_with fail
      rw [← ht]
      refine (s_l1Split t 10 _ rfl _ ht4).mono ?_
      rintro e w' ⟨⟨A3, c3, rfl, hO3⟩, g3, rfl⟩
      obtain ⟨b3, o3, rfl, hlt3, hc3⟩ := own_head hO3 H1.out
      rw [HLN.out]
      have HO3 := hid hO3
      clear hO3
      go_wp2_with fail
      refine (s_l27Read u k _ hu4 (by omega)).mono ?_
      rintro e w' ⟨⟨x, rfl, hx⟩, g4, rfl⟩
      obtain rfl := hx _ HQ.out
      rw [HQ.out]
      simp only [Option.isSome_some]
      clear hx
      go_wp2_with (at_builtin; refine wpList_appB (B := w.heap.size) rfl _ _ _ rfl 40 2 32 _ Tryz.underlying36 rec_info rfl (by omega) (by omega) A c (recsL L k) k RL.out.symm rfl (HO.out.grew (by (repeat (first | with_reducible exact grew_refl _ | with_reducible assumption | with_reducible refine grew_split ?_ | with_reducible refine grew_mk ?_ | with_reducible refine grew_plus ?_ | with_reducible refine grew_alloc ?_ | with_reducible refine grew_drew ?_ | (with_reducible refine grew_set ?_ (by first | exact Nat.le_refl _ | omega | (simp [go_sem]; done) | (simp [go_sem]; omega))))))) ?_ ?_ _ L[k].1 _ rfl rfl ?_ (RecR.one _) ?_; (· (have h := (below_of_grew hg).size; first | (simp [go_sem]; done) | (simp [go_sem]; omega) | omega)); (· (rw [RL.out]; omega)); (· (intro j u hj; match j, hj with | 0, hj => (simp [RecR.row] at hj; subst hj; simp [Addr.add, go_sem]) | 1, hj => (simp [RecR.row] at hj; subst hj; simp [Addr.add, go_sem]))); intro A1 c1 w1 hO1 hg1 hat1; have HO1 := hid hO1; have hgw := grew_own (w0 := w) (by (repeat (first | with_reducible exact grew_refl _ | with_reducible assumption | with_reducible refine grew_split ?_ | with_reducible refine grew_mk ?_ | with_reducible refine grew_plus ?_ | with_reducible refine grew_alloc ?_ | with_reducible refine grew_drew ?_ | (with_reducible refine grew_set ?_ (by first | exact Nat.le_refl _ | omega | (simp [go_sem]; done) | (simp [go_sem]; omega)))))) hg1 (fun a ha => (HO.out.ne a ha).1); obtain ⟨b5, o5, e5, hlt5, hc5⟩ := own_head (Own.keptO (HO3.out.grew (by (repeat (first | with_reducible exact grew_refl _ | with_reducible assumption | with_reducible refine grew_split ?_ | with_reducible refine grew_mk ?_ | with_reducible refine grew_plus ?_ | with_reducible refine grew_alloc ?_ | with_reducible refine grew_drew ?_ | (with_reducible refine grew_set ?_ (by first | exact Nat.le_refl _ | omega | (simp [go_sem]; done) | (simp [go_sem]; omega))))))) (HO.out.grew (by (repeat (first | with_reducible exact grew_refl _ | with_reducible assumption | with_reducible refine grew_split ?_ | with_reducible refine grew_mk ?_ | with_reducible refine grew_plus ?_ | with_reducible refine grew_alloc ?_ | with_reducible refine grew_drew ?_ | (with_reducible refine grew_set ?_ (by first | exact Nat.le_refl _ | omega | (simp [go_sem]; done) | (simp [go_sem]; omega))))))) (by decide) hg1) H1.out; injection e5 with e5; injection e5 with e5 e6; subst e5 e6; clear hO1 hg1 hat1)
      go_roundw
      case rel => exact ⟨k + 1, A1, c1, by omega, rfl, by rw [HS.out, HN.out, bl_len]; go_num, by rw [HR.out]; exact HO1.out, hgw⟩
      case measure => simp [slLen8]; omega
    · obtain rfl : k = L.length := by omega
      have hZ := HZ.out
      rw [← ht] at hZ
      have hg := HG.out
      have HE := hid (endAt_len L)
      by_cases hen : s.size ≤ endAt L L.length
      · go_wp2_with fail
        go_ret2
        exact ⟨⟨A, c, by rw [HE.out]; rfl, HO.out⟩, by (repeat (first | with_reducible exact grew_refl _ | with_reducible assumption | with_reducible refine grew_split ?_ | with_reducible refine grew_mk ?_ | with_reducible refine grew_plus ?_ | with_reducible refine grew_alloc ?_ | with_reducible refine grew_drew ?_ | (with_reducible refine grew_set ?_ (by first | exact Nat.le_refl _ | omega | (simp [go_sem]; done) | (simp [go_sem]; omega)))))⟩
      by_cases h60 : 60 ≤ L.length
      · have hki : (60 : Int) ≤ (L.length : Int) := by omega
        go_wp2_with fail
        go_ret2
        exact ⟨⟨A, c, by rw [HE.out]; rfl, HO.out⟩, by (repeat (first | with_reducible exact grew_refl _ | with_reducible assumption | with_reducible refine grew_split ?_ | with_reducible refine grew_mk ?_ | with_reducible refine grew_plus ?_ | with_reducible refine grew_alloc ?_ | with_reducible refine grew_drew ?_ | (with_reducible refine grew_set ?_ (by first | exact Nat.le_refl _ | omega | (simp [go_sem]; done) | (simp [go_sem]; omega)))))⟩
      have hki : (L.length : Int) < 60 := by omega
      have hcase := head_split_none hZ (by omega)
      rw [HB.out] at hcase
      have hno : (r1.length : Int) + 1 < 2 ∨ recAt (bl u) L.length = none := by
        rcases hcase with h | h
        · left
          have := H2.out.2 h
          rw [this]; simp
        · exact .inr h
      have HNO := hid hno
      clear hno hcase hZ
      go_wp2_with fail
      rw [← ht]
      refine (s_l1Split t 10 _ rfl _ ht4).mono ?_
      rintro e w' ⟨⟨A3, c3, rfl, hO3⟩, g3, rfl⟩
      obtain ⟨b3, o3, rfl, hlt3, hc3⟩ := own_head hO3 H1.out
      rw [HLN.out]
      clear hO3
      go_wp2_with fail
      refine (s_l27Read u L.length _ hu4 (by omega)).mono ?_
      rintro e w' ⟨⟨x, rfl, -⟩, g4, rfl⟩
      by_cases hs2 : (r1.length : Int) + 1 < 2
      · go_wp2_with fail
        go_ret2
        exact ⟨⟨A, c, by rw [HE.out]; rfl, HO.out.grew (by (repeat (first | with_reducible exact grew_refl _ | with_reducible assumption | with_reducible refine grew_split ?_ | with_reducible refine grew_mk ?_ | with_reducible refine grew_plus ?_ | with_reducible refine grew_alloc ?_ | with_reducible refine grew_drew ?_ | (with_reducible refine grew_set ?_ (by first | exact Nat.le_refl _ | omega | (simp [go_sem]; done) | (simp [go_sem]; omega))))))⟩, by (repeat (first | with_reducible exact grew_refl _ | with_reducible assumption | with_reducible refine grew_split ?_ | with_reducible refine grew_mk ?_ | with_reducible refine grew_plus ?_ | with_reducible refine grew_alloc ?_ | with_reducible refine grew_drew ?_ | (with_reducible refine grew_set ?_ (by first | exact Nat.le_refl _ | omega | (simp [go_sem]; done) | (simp [go_sem]; omega)))))⟩
      · have hn : (recAt (bl u) L.length).isSome = false := by rw [HNO.out.resolve_left hs2]; rfl
        rw [hn]
        go_wp2_with fail
        go_ret2
        exact ⟨⟨A, c, by rw [HE.out]; rfl, HO.out.grew (by (repeat (first | with_reducible exact grew_refl _ | with_reducible assumption | with_reducible refine grew_split ?_ | with_reducible refine grew_mk ?_ | with_reducible refine grew_plus ?_ | with_reducible refine grew_alloc ?_ | with_reducible refine grew_drew ?_ | (with_reducible refine grew_set ?_ (by first | exact Nat.le_refl _ | omega | (simp [go_sem]; done) | (simp [go_sem]; omega))))))⟩, by (repeat (first | with_reducible exact grew_refl _ | with_reducible assumption | with_reducible refine grew_split ?_ | with_reducible refine grew_mk ?_ | with_reducible refine grew_plus ?_ | with_reducible refine grew_alloc ?_ | with_reducible refine grew_drew ?_ | (with_reducible refine grew_set ?_ (by first | exact Nat.le_refl _ | omega | (simp [go_sem]; done) | (simp [go_sem]; omega)))))⟩
end Go.Proofs.YtecghfcgahgfiaaGreatDoor
/- Which logs are whole, in both packages. -/
namespace Go.Proofs.YtecghfcgahgfiaaGreatDoor
open Go.RowKit

structure LogR where
  d : ByteArray
  p : ByteArray
  n : Int
abbrev LogR.val (l : LogR) : Value := .agg #[.string l.d, .string l.p, .int .i64 l.n]
def LogR.ok (l : LogR) : Bool := logB (bl l.d) (bl l.p) l.n
/-- The records of a log. -/
def LogR.recs (l : LogR) : List (RecR × Nat) := opensF (bl (l.d ++ l.p))
theorem LogR.ok_iff (l : LogR) : l.ok = true ↔ endOf l.recs = (l.d ++ l.p).size ∧ (l.recs.length : Int) = l.n ∧ ∃ j, j ≤ l.recs.length ∧ endAt l.recs j = l.d.size := by
  have h := ends_prefix 61 (bl l.d) (bl l.p) 0
  have e1 := bl_len (l.d ++ l.p)
  rw [bl_app] at e1
  unfold LogR.ok logB LogR.recs
  rw [bl_app]
  simp only [Bool.and_eq_true, decide_eq_true_eq, e1]
  constructor
  · rintro ⟨⟨h1, h2⟩, h3⟩
    obtain ⟨j, h4, h5⟩ := h.2 h3
    rw [bl_len] at h5
    exact ⟨h1, h2, j, h4, h5⟩
  · rintro ⟨h1, h2, j, h4, h5⟩
    exact ⟨⟨h1, h2⟩, h.1 ⟨j, h4, by rw [bl_len]; exact h5⟩⟩
theorem LogR.end_d {l : LogR} (h : l.ok = true) : endOf (opensF (bl l.d)) = l.d.size := by
  unfold LogR.ok logB at h
  simp only [Bool.and_eq_true, decide_eq_true_eq, bl_len] at h
  exact h.2
theorem LogR.no {l : LogR} (h : ¬ (endOf l.recs = (l.d ++ l.p).size ∧ (l.recs.length : Int) = l.n ∧ ∃ j, j ≤ l.recs.length ∧ endAt l.recs j = l.d.size)) : l.ok = false := by
  cases ho : l.ok
  · rfl
  · exact absurd (l.ok_iff.1 ho) h
theorem endsL_get {L : List (RecR × Nat)} {m k : Nat} (h : k < (endsL L m).length) : (endsL L m)[k] = ((endAt L k : Nat) : Int) := by simp [endsL]
theorem all_step {p : Nat → Prop} {k : Nat} (h : ∀ j, j < k → p j) (hk : p k) : ∀ j, j < k + 1 → p j := by
  intro j hj
  rcases Nat.lt_or_ge j k with h1 | h1
  · exact h j h1
  · have : j = k := by omega
    subst this; exact hk
set_option maxHeartbeats 4000000 in
theorem i_IsValidLog (l : LogR) (o : Bool) (ho : l.ok = o) (w : World) (h1 : l.d.size ≤ 2097152) (h2 : l.p.size ≤ 2097152) (hE : Env w) :
    Calls Tryz.prog 43 #[l.val] w fun e w' => e = .returned (.bool o) ∧ ∃ g, w' = plus w g := by
  have HE := hid hE
  subst ho
  obtain ⟨s, hs⟩ : ∃ s, s = l.d ++ l.p := ⟨_, rfl⟩
  obtain ⟨L, hL⟩ : ∃ L, L = l.recs := ⟨_, rfl⟩
  have hLs : opensF (bl s) = L := by rw [hL, hs]; rfl
  have hsz : s.size ≤ 4194304 := by rw [hs, ByteArray.size_append]; omega
  have HI := hid l.ok_iff
  have HN := hid (@LogR.no l)
  have hR := i_readRecords s
  rw [hLs] at hR
  have HR := hid hR
  have HS := hid hs
  have HL := hid hL
  have hl60 : L.length ≤ 60 := by rw [← hLs]; exact opensF_len _
  have he := (opensF_end (bl s)).1
  rw [hLs, bl_len] at he
  clear hE hs hL hLs hR
  obtain ⟨d, p, n⟩ := l
  simp only at h1 h2
  go_enter Tryz.func43, Tryz.ntmps43
  go_wp2_with fail
  have HS1 : s = d ++ p := HS.out
  rw [← HS1]
  have HS1 := hid HS1
  refine (HR.out _ hsz (HE.out.grew (by (repeat (first | with_reducible exact grew_refl _ | with_reducible assumption | with_reducible refine grew_split ?_ | with_reducible refine grew_mk ?_ | with_reducible refine grew_plus ?_ | with_reducible refine grew_alloc ?_ | with_reducible refine grew_drew ?_ | (with_reducible refine grew_set ?_ (by first | exact Nat.le_refl _ | omega | (simp [go_sem]; done) | (simp [go_sem]; omega)))))))).mono ?_
  rintro e w' ⟨⟨A, c, A', c', rfl, -, hO⟩, g1, rfl⟩
  have hA := hO.sl intRow_len
  have HA := hid hA
  have EL := endsL_len L L.length
  have EL := hid EL
  clear hO hA
  obtain ⟨b, off, rfl, hb, hc⟩ := HA.out.at_ (k := L.length) (by rw [EL.out]; omega)
  have hcl := icells hc (k := L.length) (by rw [EL.out]; omega)
  rw [endsL_get, endAt_len] at hcl
  have HC := hid hc
  clear hc
  have HI2 : Hid (LogR.ok ⟨d, p, n⟩ = true ↔ endOf L = s.size ∧ (L.length : Int) = n ∧ ∃ j, j ≤ L.length ∧ endAt L j = d.size) := hid (by
    have h := HI.out
    rw [← HL.out, ← HS.out] at h
    exact h)
  have HN2 : Hid (¬ (endOf L = s.size ∧ (L.length : Int) = n ∧ ∃ j, j ≤ L.length ∧ endAt L j = d.size) → LogR.ok ⟨d, p, n⟩ = false) := hid (fun h => by
    cases ho : LogR.ok ⟨d, p, n⟩
    · rfl
    · exact absurd (HI2.out.1 ho) h)
  clear HI HN HL HS HR
  have hs2 : s.size = d.size + p.size := by rw [HS1.out, ByteArray.size_append]
  have HS2 := hid hs2
  clear hs2
  by_cases hen : endOf L = s.size
  · have t1 : ((endOf L : Int) != (d.size : Int) + (p.size : Int)) = false := by rw [hen, HS2.out]; simp
    by_cases hct : (L.length : Int) = n
    · have t2 : ((L.length : Int) != n) = false := by rw [hct]; simp
      have HEN := hid hen
      have HCT := hid hct
      clear hen hct
      go_wp2_with fail
      go_loopw [35] (fun i wr => ∃ k : Nat, k ≤ L.length + 1 ∧ i = .int .i64 k ∧ (∀ j, j < k → endAt L j ≠ d.size) ∧ ∃ g, wr = plus (w.alloc (.cells #[.string d, .string p, .int .i64 n] 28)) (g1.add g)) (fun i _ => L.length + 1 - (intOf i).toNat)
      case atStart => exact ⟨0, Nat.zero_le _, rfl, by omega, ⟨#[], g1.n⟩, by simp [Ext.add]⟩
      case round =>
        obtain ⟨k, hk, rfl, hall, g, rfl⟩ := hrel
        have H0 := hid hall
        clear hall
        by_cases hlt : k < L.length + 1
        · have hck := HC.out k (by rw [EL.out]; omega) 0 _ rfl
          simp only [Nat.mul_one, Nat.add_zero] at hck
          rw [endsL_get] at hck
          have hck2 := (cell?_plus _ g hb).trans hck
          rw [plus_plus] at hck2
          clear hck
          by_cases heq : endAt L k = d.size
          · have t3 : ((endAt L k : Int) == (d.size : Int)) = true := by rw [heq]; simp
            have HY := hid (HI2.out.2 ⟨HEN.out, HCT.out, k, by omega, heq⟩)
            clear heq
            go_wp2_with fail
            go_ret
            exact ⟨ret_bool HY.out.symm, by (repeat (first | with_reducible exact grew_refl _ | with_reducible assumption | with_reducible refine grew_split ?_ | with_reducible refine grew_mk ?_ | with_reducible refine grew_plus ?_ | with_reducible refine grew_alloc ?_ | with_reducible refine grew_drew ?_ | (with_reducible refine grew_set ?_ (by first | exact Nat.le_refl _ | omega | (simp [go_sem]; done) | (simp [go_sem]; omega)))))⟩
          · have t3 : ((endAt L k : Int) == (d.size : Int)) = false := by rw [beq_eq_false_iff_ne]; omega
            have HQ := hid heq
            clear heq
            go_wp2_with fail
            go_roundw
            case rel => exact ⟨k + 1, by omega, by go_num, all_step H0.out HQ.out, _, rfl⟩
            case measure => simp [intOf]; omega
        · obtain rfl : k = L.length + 1 := by omega
          have HY := hid (HN2.out (fun ⟨_, _, j, h1, h2⟩ => H0.out j (by omega) h2))
          go_wp2_with fail
          go_ret
          exact ⟨ret_bool HY.out.symm, by (repeat (first | with_reducible exact grew_refl _ | with_reducible assumption | with_reducible refine grew_split ?_ | with_reducible refine grew_mk ?_ | with_reducible refine grew_plus ?_ | with_reducible refine grew_alloc ?_ | with_reducible refine grew_drew ?_ | (with_reducible refine grew_set ?_ (by first | exact Nat.le_refl _ | omega | (simp [go_sem]; done) | (simp [go_sem]; omega)))))⟩
    · have t2 : ((L.length : Int) != n) = true := by simpa using hct
      have HY := hid (HN2.out (fun ⟨_, h, _⟩ => hct h))
      clear hct hen
      go_wp2_with fail
      go_ret
      exact ⟨ret_bool HY.out.symm, by (repeat (first | with_reducible exact grew_refl _ | with_reducible assumption | with_reducible refine grew_split ?_ | with_reducible refine grew_mk ?_ | with_reducible refine grew_plus ?_ | with_reducible refine grew_alloc ?_ | with_reducible refine grew_drew ?_ | (with_reducible refine grew_set ?_ (by first | exact Nat.le_refl _ | omega | (simp [go_sem]; done) | (simp [go_sem]; omega)))))⟩
  · have t1 : ((endOf L : Int) != (d.size : Int) + (p.size : Int)) = true := by have := HS2.out; simp; omega
    have HY := hid (HN2.out (fun ⟨h, _⟩ => hen h))
    clear hen
    go_wp2_with fail
    go_ret
    exact ⟨ret_bool HY.out.symm, by (repeat (first | with_reducible exact grew_refl _ | with_reducible assumption | with_reducible refine grew_split ?_ | with_reducible refine grew_mk ?_ | with_reducible refine grew_plus ?_ | with_reducible refine grew_alloc ?_ | with_reducible refine grew_drew ?_ | (with_reducible refine grew_set ?_ (by first | exact Nat.le_refl _ | omega | (simp [go_sem]; done) | (simp [go_sem]; omega)))))⟩
set_option maxHeartbeats 2000000 in
theorem s_l27Log (l : LogR) (o : Bool) (ho : l.ok = o) (w : World) (h1 : l.d.size ≤ 2097152) (h2 : l.p.size ≤ 2097152) :
    Calls Tryz.prog 54 #[l.val] w fun e w' => e = .returned (.bool o) ∧ ∃ g, w' = plus w g := by
  subst ho
  obtain ⟨d, p, n⟩ := l
  simp only at h1 h2 ⊢
  obtain ⟨s, hs⟩ : ∃ s, s = d ++ p := ⟨_, rfl⟩
  have hsz : s.size = d.size + p.size := by rw [hs, ByteArray.size_append]
  have hbd := (opensF_end (bl s)).2
  have HO : Hid (LogR.ok ⟨d, p, n⟩ = (decide (endOf (opensF (bl s)) = d.size + p.size) && decide (((opensF (bl s)).length : Int) = n) && decide (endOf (opensF (bl d)) = d.size))) := hid (by
    unfold LogR.ok logB
    rw [← bl_app, ← hs, bl_len, bl_len, hsz])
  by_cases hbig : 30000 < d.size + p.size
  · have HY : Hid (LogR.ok ⟨d, p, n⟩ = false) := hid (by
      rw [HO.out, show decide (endOf (opensF (bl s)) = d.size + p.size) = false by simp; omega]; simp)
    clear hs
    have hbig' : (30000 : Int) < (d.size : Int) + (p.size : Int) := by omega
    go_enter Tryz.func54, Tryz.ntmps54
    go_wp2_with fail
    go_ret
    exact ⟨ret_bool HY.out.symm, by (repeat (first | with_reducible exact grew_refl _ | with_reducible assumption | with_reducible refine grew_split ?_ | with_reducible refine grew_mk ?_ | with_reducible refine grew_plus ?_ | with_reducible refine grew_alloc ?_ | with_reducible refine grew_drew ?_ | (with_reducible refine grew_set ?_ (by first | exact Nat.le_refl _ | omega | (simp [go_sem]; done) | (simp [go_sem]; omega)))))⟩
  · have hle : s.size ≤ 4194304 := by omega
    have hbig' : (d.size : Int) + (p.size : Int) ≤ 30000 := by omega
    have HR := hid (fun W => s_l27Open s W hle)
    have HS := hid hs
    clear hs
    go_enter Tryz.func54, Tryz.ntmps54
    go_wp2_with fail
    rw [← HS.out]
    refine (HR.out _).mono ?_
    rintro e w' ⟨⟨A, c, rfl, -⟩, g1, rfl⟩
    go_wp2_with fail
    refine (s_l27Open d _ (by omega)).mono ?_
    rintro e w' ⟨⟨A2, c2, rfl, -⟩, g2, rfl⟩
    go_wp2_with fail
    all_goals
      go_ret
      exact ⟨ret_bool (by rw [HO.out]; grind), by (repeat (first | with_reducible exact grew_refl _ | with_reducible assumption | with_reducible refine grew_split ?_ | with_reducible refine grew_mk ?_ | with_reducible refine grew_plus ?_ | with_reducible refine grew_alloc ?_ | with_reducible refine grew_drew ?_ | (with_reducible refine grew_set ?_ (by first | exact Nat.le_refl _ | omega | (simp [go_sem]; done) | (simp [go_sem]; omega)))))⟩
end Go.Proofs.YtecghfcgahgfiaaGreatDoor
