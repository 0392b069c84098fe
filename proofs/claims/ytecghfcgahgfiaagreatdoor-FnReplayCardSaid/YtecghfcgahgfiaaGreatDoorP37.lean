import Derived.Test.YtecghfcgahgfiaaGreatDoorP35
import Derived.Test.YtecghfcgahgfiaaGreatDoorP5
import Derived.Test.YtecghfcgahgfiaaGreatDoorP18
import Derived.Laws.IdiomStrings
import Derived.Deep.CutBlock
import Derived.Deep.RegionHeld3
import Derived.Deep.RegionWith
import Derived.Deep.DrawnRows
import Derived.Deep.DeepCutAuto
import Derived.Test.YtecghfcgahgfiaaGreatDoorP36
import Derived.Test.YtecghfcgahgfiaaGreatDoorP12
import Derived.Test.YtecghfcgahgfiaaGreatDoorP17
import Derived.Test.YtecghfcgahgfiaaGreatDoorP13
/- Texts drawn from the code, in the seats of logs. -/
namespace Go.Proofs.YtecghfcgahgfiaaGreatDoor
open Go.RowKit

attribute [local go_sem ↓] Go.wp_at_zero Go.wp_at_succ
theorem tcellsD {w : World} {b off : Nat} {l : List ByteArray} (hc : ∀ i (hi : i < l.length) j u, (strRow l[i])[j]? = some u → w.cell? ⟨b, off + i * 1 + j, none⟩ = some u) {k : Nat} (hk : k < l.length) :
    w.cell? ⟨b, off + k, none⟩ = some (.string l[k]) := by
  have := hc k hk 0 _ rfl
  simpa using this

theorem sl_litT (w : World) (l : List ByteArray) (cs : Array Value) (hcs : cs = (l.map Value.string).toArray) (t : TypeId) : Sl (w.alloc (.cells cs t)) 1 strRow (some ⟨w.heap.size, 0, none⟩) l := by
  refine Sl.of_blk (Blk.new w t cs) ?_
  subst hcs
  intro i hi _ j u hu
  have hj := (List.getElem?_eq_some_iff.1 hu).1
  simp [strRow] at hj
  subst hj
  simp [strRow] at hu
  simp [hi, hu]
set_option maxHeartbeats 1000000 in
theorem s_of (w0 : World) (g : Nat) (A : Option Addr) (c : Nat) (bs : List Int) (M : Int) (l : List ByteArray) (B : Option Addr) (d : Nat) (w : World) (hA : Code0 w0 A bs) (hC : CurU w0 w g A c bs M) (h1 : M ≤ 1099511627000) (hB : Sl w 1 strRow B l) (hne : ∀ a, B = some a → a.block ≠ g) (hl : 0 < l.length) (h2 : l.length ≤ 1048576) :
    Calls Tryz.prog 65 #[.pointer (some ⟨g, 0, none⟩), .slice B l.length d] w fun e w' => (∃ x, e = .returned (.string x) ∧ x ∈ l) ∧ CurU w0 w' g A c bs (M + 2) ∧ w.grownBy w' (some g) := by
  have HC := hid hC
  have HB := hid hB
  clear hC hB
  go_enter Tryz.func65, Tryz.ntmps65
  go_wp2_with fail
  refine (s_pick w0 g A c bs M l.length _ hA HC.out h1 (by omega)).mono ?_
  rintro e w1 ⟨⟨x, rfl, x0, x1⟩, hC1, hG1⟩
  obtain ⟨k, hk0⟩ : ∃ k : Nat, x = (k : Int) := ⟨x.toNat, by omega⟩
  subst hk0
  have hk : k < l.length := by omega
  obtain ⟨b, off, hBe, hb, hc⟩ := (sl_kept HB.out hG1 hne).at_ hk
  subst hBe
  have hc0 := tcellsD hc hk
  have HC1 := hid hC1
  have HG1 := hid hG1
  clear hC1 hG1 hc hne
  go_wp2_with fail
  go_ret
  exact ⟨⟨_, rfl, List.getElem_mem hk⟩, HC1.out, HG1.out⟩
/-- One of some texts that are written out. -/
theorem s_ofL (w0 : World) (g : Nat) (A : Option Addr) (c : Nat) (bs : List Int) (M : Int) (l : List ByteArray) (cs : Array Value) (hcs : cs = (l.map Value.string).toArray) (d b : Nat) (w : World) (hb : b = w.heap.size) (hA : Code0 w0 A bs) (hC : CurU w0 w g A c bs M) (h1 : M ≤ 1099511627000) (hl : 0 < l.length) (h2 : l.length ≤ 1048576) :
    Calls Tryz.prog 65 #[.pointer (some ⟨g, 0, none⟩), .slice (some ⟨b, 0, none⟩) l.length d] (w.alloc (.cells cs 9)) fun e w' => (∃ x, e = .returned (.string x) ∧ x ∈ l) ∧ CurU w0 w' g A c bs (M + 2) ∧ w.grownBy w' (some g) := by
  subst hb
  refine (s_of w0 g A c bs M l _ d _ hA (hC.grew' (by (repeat (first | with_reducible exact grew_refl _ | with_reducible assumption | with_reducible refine grew_split ?_ | with_reducible refine grew_mk ?_ | with_reducible refine grew_plus ?_ | with_reducible refine grew_alloc ?_ | with_reducible refine grew_drew ?_ | (with_reducible refine grew_set ?_ (by first | exact Nat.le_refl _ | omega | (simp [go_sem]; done) | (simp [go_sem]; omega))))))) h1 (sl_litT w l cs hcs _) (fun a ha => by injection ha with ha; subst ha; have := hC.lt; simp; omega) hl h2).mono ?_
  rintro e w' ⟨hx, hc, hg⟩
  exact ⟨hx, hc, (grown_of_grew (by (repeat (first | with_reducible exact grew_refl _ | with_reducible assumption | with_reducible refine grew_split ?_ | with_reducible refine grew_mk ?_ | with_reducible refine grew_plus ?_ | with_reducible refine grew_alloc ?_ | with_reducible refine grew_drew ?_ | (with_reducible refine grew_set ?_ (by first | exact Nat.le_refl _ | omega | (simp [go_sem]; done) | (simp [go_sem]; omega)))))) _).trans hg⟩
end Go.Proofs.YtecghfcgahgfiaaGreatDoor
/- The reference's draw of a command. -/
namespace Go.Proofs.YtecghfcgahgfiaaGreatDoor
open Go.RowKit

set_option maxHeartbeats 4000000 in
set_option maxRecDepth 100000 in
theorem s_command (w0 : World) (g : Nat) (A : Option Addr) (c : Nat) (bs : List Int) (M : Int) (v : DayV) (l : LogR) (w : World) (hA : Code0 w0 A bs) (hC : CurU w0 w g A c bs M) (h1 : M ≤ 1099511610000) (hl : v.core.lines.length ≤ 1000000) :
    Calls Tryz.prog 31 #[.pointer (some ⟨g, 0, none⟩), ConV.val ⟨v, l⟩] w fun e w' => (∃ x, e = .returned (.string x) ∧ x.size ≤ 30) ∧ CurU w0 w' g A c bs (M + 60) ∧ w.grownBy w' (some g) := by
  have HC := hid hC
  have hgl := hC.lt
  clear hC
  go_enter Tryz.func31, Tryz.ntmps31
  go_wp2_with fail
  refine (s_dayStep w0 g A c bs M v _ hA (HC.out.grew' (by (repeat (first | with_reducible exact grew_refl _ | with_reducible assumption | with_reducible refine grew_split ?_ | with_reducible refine grew_mk ?_ | with_reducible refine grew_plus ?_ | with_reducible refine grew_alloc ?_ | with_reducible refine grew_drew ?_ | (with_reducible refine grew_set ?_ (by first | exact Nat.le_refl _ | omega | (simp [go_sem]; done) | (simp [go_sem]; omega))))))) (by omega) hl).mono ?_
  rintro e w1 ⟨⟨k, x, rfl, x0, x1⟩, hC1, hG1⟩
  have HC1 := hid hC1
  have HG1 := hid ((grown_of_grew (w := w) (by (repeat (first | with_reducible exact grew_refl _ | with_reducible assumption | with_reducible refine grew_split ?_ | with_reducible refine grew_mk ?_ | with_reducible refine grew_plus ?_ | with_reducible refine grew_alloc ?_ | with_reducible refine grew_drew ?_ | (with_reducible refine grew_set ?_ (by first | exact Nat.le_refl _ | omega | (simp [go_sem]; done) | (simp [go_sem]; omega)))))) (some g)).trans hG1)
  have hg1l := hC1.lt
  clear hC1 hG1
  go_wp2_with fail
  refine (s_l1Most _ _ _).mono ?_
  (rintro e w' ⟨rfl, rfl⟩)
  go_wp2_with fail
  refine (s_l1Num _ _ (by omega) (by omega)).mono ?_
  (rintro e w' ⟨rfl, gx, rfl⟩)
  have ht := num_size (max 0 x) (by omega) (by omega)
  generalize num (max 0 x) = t at ht ⊢
  go_wp2_with fail
  refine (s_pick w0 g A c bs _ 6 _ hA (HC1.out.grew' (by (repeat (first | with_reducible exact grew_refl _ | with_reducible assumption | with_reducible refine grew_split ?_ | with_reducible refine grew_mk ?_ | with_reducible refine grew_plus ?_ | with_reducible refine grew_alloc ?_ | with_reducible refine grew_drew ?_ | (with_reducible refine grew_set ?_ (by first | exact Nat.le_refl _ | omega | (simp [go_sem]; done) | (simp [go_sem]; omega))))))) (by omega) (by omega)).mono ?_
  rintro e w2 ⟨⟨y, rfl, y0, y1⟩, hC2, hG2⟩
  have hB2 := (blk_grew (blk_new (w := w1) (b := w1.heap.size) (t := 95) (cs := #[.int .i64 k, .int .i64 x]) rfl) (by (repeat (first | with_reducible exact grew_refl _ | with_reducible assumption | with_reducible refine grew_split ?_ | with_reducible refine grew_mk ?_ | with_reducible refine grew_plus ?_ | with_reducible refine grew_alloc ?_ | with_reducible refine grew_drew ?_ | (with_reducible refine grew_set ?_ (by first | exact Nat.le_refl _ | omega | (simp [go_sem]; done) | (simp [go_sem]; omega))))))).grown hG2 (fun e => by injection e with e; omega)
  have HC2 := hid hC2
  have HG2 := hid ((HG1.out.trans (grown_of_grew (by (repeat (first | with_reducible exact grew_refl _ | with_reducible assumption | with_reducible refine grew_split ?_ | with_reducible refine grew_mk ?_ | with_reducible refine grew_plus ?_ | with_reducible refine grew_alloc ?_ | with_reducible refine grew_drew ?_ | (with_reducible refine grew_set ?_ (by first | exact Nat.le_refl _ | omega | (simp [go_sem]; done) | (simp [go_sem]; omega)))))) _)).trans hG2)
  have hbl := hB2.lt
  have hb0 := hB2.cell 0
  simp [go_sem] at hb0
  clear hC2 hG2 hB2
  have hs1 : ¬ 9223372036854775807 < 5 + t.size := by omega
  have hs2 : ¬ 9223372036854775807 < 6 + t.size := by omega
  have y' : y = 0 ∨ y = 1 ∨ y = 2 ∨ y = 3 ∨ y = 4 ∨ y = 5 := by omega
  rcases y' with rfl | rfl | rfl | rfl | rfl | rfl
  iterate 4
    · rcases (show k = 1 ∨ k = 2 ∨ k = 3 ∨ k = 4 ∨ k = 5 ∨ k = 6 ∨ (k ≠ 1 ∧ k ≠ 2 ∧ k ≠ 3 ∧ k ≠ 4 ∧ k ≠ 5 ∧ k ≠ 6) by omega) with rfl | rfl | rfl | rfl | rfl | rfl | ⟨n1, n2, n3, n4, n5, n6⟩
      iterate 6
        · go_wp2_with fail
          go_ret
          exact ⟨⟨_, rfl, by first | decide | (rw [ByteArray.size_append]; refine Nat.le_trans (Nat.add_le_add_right (m := 6) ?_ _) (by omega); decide)⟩, HC2.out.le (by omega), HG2.out⟩
      · have e1 : (k == 1) = false := by simp [n1]
        have e2 : (k == 2) = false := by simp [n2]
        have e3 : (k == 3) = false := by simp [n3]
        have e4 : (k == 4) = false := by simp [n4]
        have e5 : (k == 5) = false := by simp [n5]
        have e6 : (k == 6) = false := by simp [n6]
        clear n1 n2 n3 n4 n5 n6
        go_wp2_with fail
        go_ret
        exact ⟨⟨_, rfl, by decide⟩, HC2.out.le (by omega), HG2.out⟩
  · go_wp2_with fail
    (refine (s_ofL w0 g A c bs _ [_, _, _, _, _] _ rfl _ _ _ (by first | rfl | simp) hA (HC2.out.grew' (by (repeat (first | with_reducible exact grew_refl _ | with_reducible assumption | with_reducible refine grew_split ?_ | with_reducible refine grew_mk ?_ | with_reducible refine grew_plus ?_ | with_reducible refine grew_alloc ?_ | with_reducible refine grew_drew ?_ | (with_reducible refine grew_set ?_ (by first | exact Nat.le_refl _ | omega | (simp [go_sem]; done) | (simp [go_sem]; omega))))))) (by omega) (by simp) (by simp)).mono ?_; rintro e w3 ⟨⟨q, rfl, hq⟩, hC3, hG3⟩; have hqs : q.size ≤ 30 := (by simp at hq; rcases hq with rfl | rfl | rfl | rfl | rfl <;> decide); have HC3 := hid hC3; have HG3 := hid ((HG2.out.trans (grown_of_grew (by (repeat (first | with_reducible exact grew_refl _ | with_reducible assumption | with_reducible refine grew_split ?_ | with_reducible refine grew_mk ?_ | with_reducible refine grew_plus ?_ | with_reducible refine grew_alloc ?_ | with_reducible refine grew_drew ?_ | (with_reducible refine grew_set ?_ (by first | exact Nat.le_refl _ | omega | (simp [go_sem]; done) | (simp [go_sem]; omega)))))) _)).trans hG3); clear hC3 hG3 hq; go_wp2_with fail; go_ret; exact ⟨⟨q, rfl, hqs⟩, HC3.out.le (by omega), HG3.out⟩)
  · go_wp2_with fail
    (refine (s_ofL w0 g A c bs _ [_, _, _, _, _, _, _, _, _, _] _ rfl _ _ _ (by first | rfl | simp) hA (HC2.out.grew' (by (repeat (first | with_reducible exact grew_refl _ | with_reducible assumption | with_reducible refine grew_split ?_ | with_reducible refine grew_mk ?_ | with_reducible refine grew_plus ?_ | with_reducible refine grew_alloc ?_ | with_reducible refine grew_drew ?_ | (with_reducible refine grew_set ?_ (by first | exact Nat.le_refl _ | omega | (simp [go_sem]; done) | (simp [go_sem]; omega))))))) (by omega) (by simp) (by simp)).mono ?_; rintro e w3 ⟨⟨q, rfl, hq⟩, hC3, hG3⟩; have hqs : q.size ≤ 30 := (by simp at hq; rcases hq with rfl | rfl | rfl | rfl | rfl | rfl | rfl | rfl | rfl | rfl <;> decide); have HC3 := hid hC3; have HG3 := hid ((HG2.out.trans (grown_of_grew (by (repeat (first | with_reducible exact grew_refl _ | with_reducible assumption | with_reducible refine grew_split ?_ | with_reducible refine grew_mk ?_ | with_reducible refine grew_plus ?_ | with_reducible refine grew_alloc ?_ | with_reducible refine grew_drew ?_ | (with_reducible refine grew_set ?_ (by first | exact Nat.le_refl _ | omega | (simp [go_sem]; done) | (simp [go_sem]; omega)))))) _)).trans hG3); clear hC3 hG3 hq; go_wp2_with fail; go_ret; exact ⟨⟨q, rfl, hqs⟩, HC3.out.le (by omega), HG3.out⟩)
end Go.Proofs.YtecghfcgahgfiaaGreatDoor
/- What a possible step of a day changes. Plain laws; no program in sight. -/
namespace Go.Proofs.YtecghfcgahgfiaaGreatDoor
open Go.RowKit

theorem stepAll_yes {d o : DayC} {k x : Int} (h : stepAll d k x = (o, true)) : d.ok = true ∧ o.ok = true ∧ candF d k x = some o := by
  unfold stepAll at h
  split at h
  · rename_i hd
    unfold stepF at h
    split at h
    · rename_i d' hc
      split at h
      · rename_i ho
        injection h with h1 h2
        subst h1
        exact ⟨hd, ho, hc⟩
      · injection h with h1 h2; cases h2
    · injection h with h1 h2; cases h2
  · injection h with h1 h2; cases h2
theorem stepAll_len (d : DayC) (k x : Int) : (stepAll d k x).1.lines.length ≤ 8 := by
  unfold stepAll
  split
  · rename_i hd
    cases h2 : (stepF d k x).2
    · rw [stepF_no h2]; simp [noDay]
    · exact (DayC.bounds (stepF_ok h2)).2.2.2.2.2.1
  · simp [noDay]
/-- The ways of a possible step. -/
theorem cand_ways {d o : DayC} {k x : Int} (h : candF d k x = some o) :
    (d.minute ≤ o.minute ∧ (0 ≤ d.fuel → o.fuel ≤ d.fuel)) ∧ (k = 4 → castB d = true) ∧ ((k ≠ 5 ∧ o.lines = d.lines) ∨ (k = 5 ∧ d.state = 2 ∧ o.lines = setDone d.lines (d.line - 1).toNat)) := by
  unfold candF at h
  repeat' split at h
  all_goals first
    | (cases h; done)
    | (injection h with h; subst h; simp only; refine ⟨⟨by omega, ?_⟩, ?_, ?_⟩ <;> grind)
theorem mem_todo {l : List LineR} {x : Int} : ∀ {k : Nat}, x ∈ todoTo l k ↔ ∃ i : Nat, i < k ∧ doneAt l i = false ∧ x = (i : Int) + 1 := by
  intro k
  induction k with
  | zero => simp [todoTo]
  | succ k ih =>
    simp only [todoTo]
    constructor
    · intro h
      split at h
      · obtain ⟨i, h1, h2⟩ := ih.1 h; exact ⟨i, by omega, h2⟩
      · rename_i hd
        rcases List.mem_append.1 h with h | h
        · obtain ⟨i, h1, h2⟩ := ih.1 h; exact ⟨i, by omega, h2⟩
        · simp at h; exact ⟨k, by omega, by simpa using hd, h⟩
    · rintro ⟨i, h1, h2, h3⟩
      by_cases hik : i = k
      · subst hik
        rw [if_neg (by simp [h2])]
        exact List.mem_append.2 (.inr (by simp [h3]))
      · have := ih.2 ⟨i, by omega, h2, h3⟩
        split
        · exact this
        · exact List.mem_append.2 (.inl this)
theorem done_set {l : List LineR} {j i : Nat} (hj : j < l.length) : doneAt (setDone l j) i = (doneAt l i || decide (i = j)) := by
  unfold doneAt setDone
  rw [dif_pos hj]
  by_cases hi : i < l.length
  · rw [dif_pos hi, dif_pos (by simpa using hi)]
    by_cases e : i = j
    · subst e; simp
    · rw [List.getElem_set_ne (by omega)]; simp [e]
  · rw [dif_neg hi, dif_neg (by simpa using hi)]
    have : i ≠ j := by omega
    simp [this]
theorem setDone_len' (l : List LineR) (j : Nat) : (setDone l j).length = l.length := by unfold setDone; split <;> simp
theorem todo_set {l : List LineR} {j : Nat} (hj : j < l.length) (hd : doneAt l j = false) : ∀ k, (k ≤ j → todoTo (setDone l j) k = todoTo l k) ∧ (j < k → (todoTo (setDone l j) k).length + 1 = (todoTo l k).length) := by
  intro k
  induction k with
  | zero => exact ⟨fun _ => rfl, fun h => by omega⟩
  | succ k ih =>
    constructor
    · intro hk
      have e : decide (k = j) = false := by simp; omega
      simp only [todoTo, done_set hj, e, Bool.or_false, ih.1 (by omega)]
    · intro hk
      by_cases e : k = j
      · subst e
        simp only [todoTo, done_set hj, hd, ih.1 (Nat.le_refl _)]
        simp
      · have e' : decide (k = j) = false := by simp [e]
        have := ih.2 (by omega)
        simp only [todoTo, done_set hj, e', Bool.or_false]
        split
        · exact this
        · simp; omega
/-- What a possible step changes. -/
theorem step_law {d o : DayC} {k x : Int} (h : stepAll d k x = (o, true)) :
    d.ok = true ∧ o.ok = true ∧ d.minute ≤ o.minute ∧ o.fuel ≤ d.fuel ∧ (k = 4 → castB d = true) ∧ (∀ y ∈ todoF o, y ∈ todoF d) ∧ (k = 5 → (todoF o).length + 1 = (todoF d).length) := by
  obtain ⟨hd, ho, hc⟩ := stepAll_yes h
  obtain ⟨⟨h1, h2⟩, h3, h4⟩ := cand_ways hc
  have hb := DayC.bounds hd
  have e1 : todoF d = todoTo d.lines d.lines.length := by simp [todoF, hd]
  have e2 : todoF o = todoTo o.lines o.lines.length := by simp [todoF, ho]
  refine ⟨hd, ho, h1, h2 (by omega), h3, ?_, ?_⟩
  · intro y hy
    rw [e1]; rw [e2] at hy
    obtain ⟨i, i1, i2, i3⟩ := mem_todo.1 hy
    rcases h4 with ⟨_, e⟩ | ⟨_, hs, e⟩
    · rw [e] at i1 i2
      exact mem_todo.2 ⟨i, i1, i2, i3⟩
    · rw [e, setDone_len'] at i1
      refine mem_todo.2 ⟨i, i1, ?_, i3⟩
      rw [e] at i2
      by_cases hj : (d.line - 1).toNat < d.lines.length
      · rw [done_set hj] at i2
        simp only [Bool.or_eq_false_iff] at i2
        exact i2.1
      · rwa [setDone, dif_neg hj] at i2
  · intro hk
    rcases h4 with ⟨h5, _⟩ | ⟨_, hs, e⟩
    · exact absurd hk h5
    · have hp : d.post = true := by
        unfold DayC.ok at hd
        simp only [Bool.and_eq_true] at hd
        exact hd.2
      unfold DayC.post at hp
      rw [if_pos hs] at hp
      simp only [inB, Bool.and_eq_true, decide_eq_true_eq, Bool.not_eq_true'] at hp
      have hj : (d.line - 1).toNat < d.lines.length := by omega
      rw [e1, e2, e, setDone_len']
      exact (todo_set hj hp.1.2 d.lines.length).2 hj
end Go.Proofs.YtecghfcgahgfiaaGreatDoor
