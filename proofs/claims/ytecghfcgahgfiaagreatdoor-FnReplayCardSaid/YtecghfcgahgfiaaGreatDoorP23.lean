import Derived.Test.YtecghfcgahgfiaaGreatDoorP22
import Derived.Deep.RegionHeld3
import Derived.Deep.DrawnRows
/- Executing a command, in the reference. -/
namespace Go.Proofs.YtecghfcgahgfiaaGreatDoor
open Go.RowKit

attribute [local go_sem ↓] Go.wp_at_zero Go.wp_at_succ

def orNo (d : DayC) (o : Option (DayC × ByteArray)) : DayC × ByteArray := o.getD (d, bs [63])
/-- What the reference's execution hands back. -/
def ComPost (B : Nat) (v : DayV) (p : DayC × ByteArray) (l : LogR) (e : Ending) (w' : World) : Prop :=
  ∃ A' c', e = .returned (.tuple #[ConV.val ⟨⟨p.1, A', c'⟩, l⟩, .string p.2]) ∧ ((A' = v.A ∧ p.1 = v.core) ∨ OwnF B 80 2 LineR.row w' A' p.1.lines)
theorem gb_plus {w w' : World} {row : Option Nat} {x : Ext} (h : w.grownBy w' row) : w.grownBy (plus w' x) row := h.trans (grown_plus _ _ _)
theorem gb_alloc {w w' : World} {row : Option Nat} {o : Obj} (h : w.grownBy w' row) : w.grownBy (w'.alloc o) row := h.trans (grown_of_grew (by (repeat (first | with_reducible exact grew_refl _ | with_reducible assumption | with_reducible refine grew_split ?_ | with_reducible refine grew_mk ?_ | with_reducible refine grew_plus ?_ | with_reducible refine grew_alloc ?_ | with_reducible refine grew_drew ?_ | (with_reducible refine grew_set ?_ (by first | exact Nat.le_refl _ | omega | (simp [go_sem]; done) | (simp [go_sem]; omega)))))) _)
theorem gb_drew {w w' : World} {row : Option Nat} (h : w.grownBy w' row) : w.grownBy w'.drew row := h.trans (grown_of_grew (by (repeat (first | with_reducible exact grew_refl _ | with_reducible assumption | with_reducible refine grew_split ?_ | with_reducible refine grew_mk ?_ | with_reducible refine grew_plus ?_ | with_reducible refine grew_alloc ?_ | with_reducible refine grew_drew ?_ | (with_reducible refine grew_set ?_ (by first | exact Nat.le_refl _ | omega | (simp [go_sem]; done) | (simp [go_sem]; omega)))))) _)
set_option maxHeartbeats 4000000 in
theorem s_l28Make (v : DayV) (l : LogR) (k x : Int) (w : World) (hv : v.At w) (_hok : v.core.ok = true) :
    Calls Tryz.prog 79 #[ConV.val ⟨v, l⟩, .agg #[.int .i64 k, .int .i64 x]] w fun e w' => ComPost w.heap.size v (orNo v.core (doStep v.core k x)) l e w' ∧ ∃ g, w' = plus w g := by
  have HV := hid hv
  clear hv _hok
  rcases stepAll_cases v.core k x with ⟨hst, hds⟩ | ⟨d', hst, hok', hds⟩
  · rw [hds]
    go_enter Tryz.func79, Tryz.ntmps79
    go_wp2_with fail
    refine (s_StepDay v k x _ (HV.out.grew (by (repeat (first | with_reducible exact grew_refl _ | with_reducible assumption | with_reducible refine grew_split ?_ | with_reducible refine grew_mk ?_ | with_reducible refine grew_plus ?_ | with_reducible refine grew_alloc ?_ | with_reducible refine grew_drew ?_ | (with_reducible refine grew_set ?_ (by first | exact Nat.le_refl _ | omega | (simp [go_sem]; done) | (simp [go_sem]; omega)))))))).mono ?_
    rw [hst]
    rintro e w' ⟨⟨A2, c2, rfl, -⟩, g2, rfl⟩
    go_wp2_with fail
    refine bodyPost_ret (v := .tuple #[ConV.val ⟨v, l⟩, .string (bs [63])]) (by simp [results, Tryz.results79, go_sem, *]; rfl) rfl ?_
    exact ⟨⟨v.A, v.c, rfl, .inl ⟨rfl, rfl⟩⟩, by (repeat (first | with_reducible exact grew_refl _ | with_reducible assumption | with_reducible refine grew_split ?_ | with_reducible refine grew_mk ?_ | with_reducible refine grew_plus ?_ | with_reducible refine grew_alloc ?_ | with_reducible refine grew_drew ?_ | (with_reducible refine grew_set ?_ (by first | exact Nat.le_refl _ | omega | (simp [go_sem]; done) | (simp [go_sem]; omega)))))⟩
  · rw [hds]
    have HST := hid hst
    have HD := hid hok'
    have hl2 := (DayC.bounds hok').2.2.2.2.2.1
    clear hst hds hok'
    go_enter Tryz.func79, Tryz.ntmps79
    go_wp2_with fail
    refine (s_StepDay v k x _ (HV.out.grew (by (repeat (first | with_reducible exact grew_refl _ | with_reducible assumption | with_reducible refine grew_split ?_ | with_reducible refine grew_mk ?_ | with_reducible refine grew_plus ?_ | with_reducible refine grew_alloc ?_ | with_reducible refine grew_drew ?_ | (with_reducible refine grew_set ?_ (by first | exact Nat.le_refl _ | omega | (simp [go_sem]; done) | (simp [go_sem]; omega)))))))).mono ?_
    rw [HST.out]
    rintro e w' ⟨⟨A2, c2, rfl, hO2⟩, g2, rfl⟩
    have HO2 := hid hO2
    clear hO2
    go_upto_region 6 with fail
    generalize hb6 : w.heap.size + 1 + 1 + 1 + g2.objs.size = b6
    refine opq_wp (fun wr => Blk wr (w.heap.size + 1 + 1) 30 #[.int .i64 0, .int .i64 0, .slice none 0 0, .int .i64 0, .int .i64 0, .int .i64 0, .int .i64 0, .string ⟨#[]⟩, .string ⟨#[]⟩, .int .i64 0] ∧ Blk wr b6 26 #[.int .i64 (d').minute, .int .i64 (d').state, .slice A2 (d').lines.length c2, .int .i64 (d').line, .int .i64 (d').since, .int .i64 (d').cast, .int .i64 (d').fuel] ∧ Blk wr (b6 + 1) 30 #[.int .i64 (d').minute, .int .i64 (d').state, .slice A2 (d').lines.length c2, .int .i64 (d').line, .int .i64 (d').since, .int .i64 (d').cast, .int .i64 (d').fuel, .string (l).d, .string (l).p, .int .i64 (l).n] ∧ OwnF (w.heap.size + 1 + 1 + 1) 80 2 LineR.row wr A2 d'.lines ∧ ∃ g, wr = plus w g) ⟨blk_grew (blk_new (w := (w.alloc _).alloc _) (by simp)) (by (repeat (first | with_reducible exact grew_refl _ | with_reducible assumption | with_reducible refine grew_split ?_ | with_reducible refine grew_mk ?_ | with_reducible refine grew_plus ?_ | with_reducible refine grew_alloc ?_ | with_reducible refine grew_drew ?_ | (with_reducible refine grew_set ?_ (by first | exact Nat.le_refl _ | omega | (simp [go_sem]; done) | (simp [go_sem]; omega)))))), blk_grew (blk_new (w := plus (((w.alloc _).alloc _).alloc _) g2) (by subst hb6; simp [go_sem])) (by (repeat (first | with_reducible exact grew_refl _ | with_reducible assumption | with_reducible refine grew_split ?_ | with_reducible refine grew_mk ?_ | with_reducible refine grew_plus ?_ | with_reducible refine grew_alloc ?_ | with_reducible refine grew_drew ?_ | (with_reducible refine grew_set ?_ (by first | exact Nat.le_refl _ | omega | (simp [go_sem]; done) | (simp [go_sem]; omega)))))), blk_new (by subst hb6; simp [go_sem]), OwnF.less (OwnF.grew HO2.out (by (repeat (first | with_reducible exact grew_refl _ | with_reducible assumption | with_reducible refine grew_split ?_ | with_reducible refine grew_mk ?_ | with_reducible refine grew_plus ?_ | with_reducible refine grew_alloc ?_ | with_reducible refine grew_drew ?_ | (with_reducible refine grew_set ?_ (by first | exact Nat.le_refl _ | omega | (simp [go_sem]; done) | (simp [go_sem]; omega))))))) (by simp [go_sem]), by (repeat (first | with_reducible exact grew_refl _ | with_reducible assumption | with_reducible refine grew_split ?_ | with_reducible refine grew_mk ?_ | with_reducible refine grew_plus ?_ | with_reducible refine grew_alloc ?_ | with_reducible refine grew_drew ?_ | (with_reducible refine grew_set ?_ (by first | exact Nat.le_refl _ | omega | (simp [go_sem]; done) | (simp [go_sem]; omega)))))⟩ ?_
    have hb6w : w.heap.size + 1 + 1 < b6 := by omega
    clear hb6 HO2 HST
    have hbRw : w.heap.size ≤ w.heap.size + 1 + 1 := by omega
    generalize w.heap.size + 1 + 1 = bR at hb6w hbRw ⊢
    rintro wr ⟨hR, hB, hC, hO, hg⟩
    have hrl := hR.lt
    have hbl := hB.lt
    have hcl := hC.lt
    have HR := hid hR
    have HB := hid hB
    have HC := hid hC
    have KEEP : Hid (∀ W : World, wr.grownBy W (some bR) → ((fun w' => w'.cell? ⟨b6, 0, none⟩ = some (.int .i64 d'.minute) ∧ w'.cell? ⟨b6, 1, none⟩ = some (.int .i64 d'.state) ∧ w'.cell? ⟨b6, 2, none⟩ = some (.slice A2 d'.lines.length c2) ∧ w'.cell? ⟨b6, 3, none⟩ = some (.int .i64 d'.line) ∧ w'.cell? ⟨b6, 4, none⟩ = some (.int .i64 d'.since) ∧ w'.cell? ⟨b6, 5, none⟩ = some (.int .i64 d'.cast) ∧ w'.cell? ⟨b6, 6, none⟩ = some (.int .i64 d'.fuel) ∧ w'.cell? ⟨b6 + 1, 0, none⟩ = some (.int .i64 d'.minute) ∧ w'.cell? ⟨b6 + 1, 1, none⟩ = some (.int .i64 d'.state) ∧ w'.cell? ⟨b6 + 1, 2, none⟩ = some (.slice A2 d'.lines.length c2) ∧ w'.cell? ⟨b6 + 1, 3, none⟩ = some (.int .i64 d'.line) ∧ w'.cell? ⟨b6 + 1, 4, none⟩ = some (.int .i64 d'.since) ∧ w'.cell? ⟨b6 + 1, 5, none⟩ = some (.int .i64 d'.cast) ∧ w'.cell? ⟨b6 + 1, 6, none⟩ = some (.int .i64 d'.fuel) ∧ w'.cell? ⟨b6 + 1, 7, none⟩ = some (.string l.d) ∧ w'.cell? ⟨b6 + 1, 8, none⟩ = some (.string l.p) ∧ w'.cell? ⟨b6 + 1, 9, none⟩ = some (.int .i64 l.n))) W) := hid (by
      intro W hW
      have hB := HB.out.grown hW (fun e => by injection e with e; omega)
      have hC := HC.out.grown hW (fun e => by injection e with e; omega)
      (have hd0 := hB.cell 0; have hd1 := hB.cell 1; have hd2 := hB.cell 2; have hd3 := hB.cell 3; have hd4 := hB.cell 4; have hd5 := hB.cell 5; have hd6 := hB.cell 6; simp [go_sem] at hd0 hd1 hd2 hd3 hd4 hd5 hd6)
      (have hc0 := hC.cell 0; have hc1 := hC.cell 1; have hc2 := hC.cell 2; have hc3 := hC.cell 3; have hc4 := hC.cell 4; have hc5 := hC.cell 5; have hc6 := hC.cell 6; have hc7 := hC.cell 7; have hc8 := hC.cell 8; have hc9 := hC.cell 9; simp [go_sem] at hc0 hc1 hc2 hc3 hc4 hc5 hc6 hc7 hc8 hc9)
      simp only [hd0, hd1, hd2, hd3, hd4, hd5, hd6, hc0, hc1, hc2, hc3, hc4, hc5, hc6, hc7, hc8, hc9, and_self])
    have HO2 := hid hO
    have HG := hid hg
    clear hR hB hC hO hg
    go_region_held3 (fun w' => w'.cell? ⟨b6, 0, none⟩ = some (.int .i64 d'.minute) ∧ w'.cell? ⟨b6, 1, none⟩ = some (.int .i64 d'.state) ∧ w'.cell? ⟨b6, 2, none⟩ = some (.slice A2 d'.lines.length c2) ∧ w'.cell? ⟨b6, 3, none⟩ = some (.int .i64 d'.line) ∧ w'.cell? ⟨b6, 4, none⟩ = some (.int .i64 d'.since) ∧ w'.cell? ⟨b6, 5, none⟩ = some (.int .i64 d'.cast) ∧ w'.cell? ⟨b6, 6, none⟩ = some (.int .i64 d'.fuel) ∧ w'.cell? ⟨b6 + 1, 0, none⟩ = some (.int .i64 d'.minute) ∧ w'.cell? ⟨b6 + 1, 1, none⟩ = some (.int .i64 d'.state) ∧ w'.cell? ⟨b6 + 1, 2, none⟩ = some (.slice A2 d'.lines.length c2) ∧ w'.cell? ⟨b6 + 1, 3, none⟩ = some (.int .i64 d'.line) ∧ w'.cell? ⟨b6 + 1, 4, none⟩ = some (.int .i64 d'.since) ∧ w'.cell? ⟨b6 + 1, 5, none⟩ = some (.int .i64 d'.cast) ∧ w'.cell? ⟨b6 + 1, 6, none⟩ = some (.int .i64 d'.fuel) ∧ w'.cell? ⟨b6 + 1, 7, none⟩ = some (.string l.d) ∧ w'.cell? ⟨b6 + 1, 8, none⟩ = some (.string l.p) ∧ w'.cell? ⟨b6 + 1, 9, none⟩ = some (.int .i64 l.n)) (exact KEEP.out _ (by (repeat (first | with_reducible exact grown_refl _ _ | with_reducible assumption | with_reducible refine gb_plus ?_ | with_reducible refine gb_alloc ?_ | with_reducible refine gb_drew ?_ | with_reducible refine grown_set ?_)))) ((go_at_call 50; refine (s_l25Text ⟨d', A2, c2⟩ _ (DayV.At.grew (DayV.At.mk HO2.out.sl (by unfold maxLen; simp only; omega)) (by (repeat (first | with_reducible exact grew_refl _ | with_reducible assumption | with_reducible refine grew_split ?_ | with_reducible refine grew_mk ?_ | with_reducible refine grew_plus ?_ | with_reducible refine grew_alloc ?_ | with_reducible refine grew_drew ?_ | (with_reducible refine grew_set ?_ (by first | exact Nat.le_refl _ | omega | (simp [go_sem]; done) | (simp [go_sem]; omega))))))) HD.out).mono ?_; rintro e w6 ⟨rfl, hg6⟩; have hR6 := blk_grew (blk_drew HR.out) hg6; have hrl6 := hR6.lt; (have hr0 := hR6.cell 0; have hr1 := hR6.cell 1; have hr2 := hR6.cell 2; have hr3 := hR6.cell 3; have hr4 := hR6.cell 4; have hr5 := hR6.cell 5; have hr6 := hR6.cell 6; have hr7 := hR6.cell 7; have hr8 := hR6.cell 8; have hr9 := hR6.cell 9; simp [go_sem] at hr0 hr1 hr2 hr3 hr4 hr5 hr6 hr7 hr8 hr9); (have fr0 := hR6.frozen 0; have fr1 := hR6.frozen 1; have fr2 := hR6.frozen 2; have fr3 := hR6.frozen 3; have fr4 := hR6.frozen 4; have fr5 := hR6.frozen 5; have fr6 := hR6.frozen 6; have fr7 := hR6.frozen 7; have fr8 := hR6.frozen 8; have fr9 := hR6.frozen 9); have hgb6 : wr.grownBy w6 (some bR) := (gb_drew (grown_refl _ _)).trans (grown_of_grew hg6 _); have HG6 := hid hg6; clear hg6 hR6))
    all_goals
      go_wp2_with fail
      refine bodyPost_ret (v := .tuple #[ConV.val ⟨⟨d', A2, c2⟩, l⟩, .string (textC d')]) (by simp [results, Tryz.results79, go_sem, *]) rfl ?_
      have hg := HG.out
      have hg6 := HG6.out
      have hgw : ∃ g, w6 = plus w g := grew_two' hg (by obtain ⟨_, rfl⟩ := hg6; (repeat (first | with_reducible exact grew_refl _ | with_reducible assumption | with_reducible refine grew_split ?_ | with_reducible refine grew_mk ?_ | with_reducible refine grew_plus ?_ | with_reducible refine grew_alloc ?_ | with_reducible refine grew_drew ?_ | (with_reducible refine grew_set ?_ (by first | exact Nat.le_refl _ | omega | (simp [go_sem]; done) | (simp [go_sem]; omega))))))
      exact ⟨⟨A2, c2, rfl, .inr ((OwnF.kept HO2.out (row := some bR) (by (repeat (first | with_reducible exact grown_refl _ _ | with_reducible assumption | with_reducible refine gb_plus ?_ | with_reducible refine gb_alloc ?_ | with_reducible refine gb_drew ?_ | with_reducible refine grown_set ?_))) (fun k hk => by injection hk with hk; omega)).less (by omega))⟩, by (repeat (first | with_reducible exact grew_refl _ | with_reducible assumption | with_reducible refine grew_split ?_ | with_reducible refine grew_mk ?_ | with_reducible refine grew_plus ?_ | with_reducible refine grew_alloc ?_ | with_reducible refine grew_drew ?_ | (with_reducible refine grew_set ?_ (by first | exact Nat.le_refl _ | omega | (simp [go_sem]; done) | (simp [go_sem]; omega)))))⟩
theorem doAsk_step {d : DayC} {x : ByteArray} (h : kindF x ≠ 0) : doAsk d x = none := by
  have key : ∀ l m : List UInt8, x.toList = l → (l == m) = false → wordIs x m = false := by
    intro l m hl hm
    rw [wordIs, hl]; exact hm
  have main : ∀ l : List UInt8, x.toList = l → (l == [100, 97, 121]) = false → (l == [116, 111, 100, 111]) = false → (l == [109, 105, 110, 117, 116, 101, 115]) = false → (l == [103, 111, 111, 100]) = false → (l == [109, 111, 115, 116]) = false → doAsk d x = none := by
    intro l hl h1 h2 h3 h4 h5
    simp [doAsk, key l _ hl h1, key l _ hl h2, key l _ hl h3, key l _ hl h4, key l _ hl h5]
  unfold kindF at h
  repeat' split at h
  all_goals first
    | exact main _ (wordIs_yes (by assumption)) (by decide) (by decide) (by decide) (by decide) (by decide)
    | exact absurd rfl h
theorem run_ask {d : DayC} {line x : ByteArray} (hws : splitV line 32 = [x]) (h : kind1 x = 0) : orNo d (runC d line) = (d, (doAsk d x).getD (bs [63])) := by
  have hR : runC d line = if kindF x = 1 ∨ kindF x = 4 then none else if kindF x = 0 then (doAsk d x).map fun r => (d, r) else doStep d (kindF x) 0 := by simp only [runC, hws]
  unfold kind1 at h
  rw [hR]
  by_cases hk : kindF x = 1 ∨ kindF x = 4
  · rw [if_pos hk, doAsk_step (by omega)]; rfl
  · rw [if_neg hk] at h ⊢
    rw [if_pos h]
    cases doAsk d x <;> rfl
theorem run_one {d : DayC} {line x : ByteArray} (hws : splitV line 32 = [x]) {K : Int} (hK : kind1 x = K) (h : 0 < K) : runC d line = doStep d K 0 := by
  have hR : runC d line = if kindF x = 1 ∨ kindF x = 4 then none else if kindF x = 0 then (doAsk d x).map fun r => (d, r) else doStep d (kindF x) 0 := by simp only [runC, hws]
  unfold kind1 at hK
  by_cases hk : kindF x = 1 ∨ kindF x = 4
  · rw [if_pos hk] at hK; omega
  · rw [if_neg hk] at hK
    rw [hR, if_neg hk, if_neg (by omega), hK]
theorem kind_wait {x : ByteArray} (h : (x.toList == [119, 97, 105, 116]) = true) : kindF x = 1 := by simp [kindF, wordIs, h]
theorem kind_begin {x : ByteArray} (h : (x.toList == [98, 101, 103, 105, 110]) = true) : kindF x = 4 := by
  have h' : x.toList = [98, 101, 103, 105, 110] := by simpa using h
  simp [kindF, wordIs, h']
theorem kind_else {x : ByteArray} (h1 : (x.toList == [119, 97, 105, 116]) = false) (h4 : (x.toList == [98, 101, 103, 105, 110]) = false) : ¬ (kindF x = 1 ∨ kindF x = 4) := by
  simp only [kindF, wordIs, h1, h4]
  repeat' split
  all_goals first | omega | (rename_i h; cases h)
theorem run_two {d : DayC} {line x y : ByteArray} (hws : splitV line 32 = [x, y]) : runC d line = if kindF x = 1 ∨ kindF x = 4 then (match parseF y with | some n => doStep d (kindF x) n | none => none) else none := by simp only [runC, hws]; rfl
end Go.Proofs.YtecghfcgahgfiaaGreatDoor
