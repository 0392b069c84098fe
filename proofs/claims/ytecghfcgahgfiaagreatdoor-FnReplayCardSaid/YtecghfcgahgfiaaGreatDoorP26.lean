import Derived.Test.YtecghfcgahgfiaaGreatDoorP24
import Derived.Test.YtecghfcgahgfiaaGreatDoorP25
/- ExecuteCommand, in both packages. -/
namespace Go.Proofs.YtecghfcgahgfiaaGreatDoor
open Go.RowKit

attribute [local go_sem ↓] Go.wp_at_zero Go.wp_at_succ
theorem OwnF.apart {α : Type} {B : Nat} {e t : TypeId} {s : Nat} {cells : α → List Value} {w w' : World} {A : Option Addr} {l : List α} {k : Nat} {cs : Array Value} (h : OwnF B e s cells w A l) (hb : Blk w k t cs) (hne : t ≠ e) (hg : w.grownBy w' (some k)) : OwnF B e s cells w' A l := by
  rcases h with h | ⟨g, cur, hA, hB, hK, r⟩
  · exact .inl h
  · refine .inr ⟨g, cur, hA, hB, hK.grown hg (fun e1 => ?_), r⟩
    injection e1 with e1
    subst e1
    unfold Blk at hb hK
    rw [hK] at hb
    injection hb with hb
    injection hb with _ h2
    exact hne h2.symm
theorem gb_base {w w' : World} {row : Option Nat} {x : Ext} (h : w.grownBy w' row) (hs : w'.heap.size = w.heap.size) : (plus w x).grownBy (plus w' x) row := by
  refine ⟨h.os, h.tape, h.output, by rw [size_plus, size_plus, hs]; exact Nat.le_refl _, fun k hk hne => ?_⟩
  unfold plus
  simp only [Array.getElem?_append, hs]
  split
  · rename_i hlt; exact h.block k hlt hne
  · rfl
def cutR (r : ByteArray) : ByteArray := if 200 < r.size then bs [108, 111, 110, 103] else r
theorem cutR_size (r : ByteArray) : (cutR r).size ≤ 200 := by
  unfold cutR
  split
  · decide
  · omega
theorem exeF_no {d : DayC} {l : LogR} {line : ByteArray} (h : conOk d l = false) : exeF d l line = (d, l, bs [110, 111]) := by
  unfold conOk at h; simp [exeF, h]
theorem exeF_bad {d : DayC} {l : LogR} {line : ByteArray} (h : conOk d l = true) (hr : recOk line ⟨#[]⟩ = false) : exeF d l line = (d, l, bs [98, 97, 100]) := by
  unfold conOk at h; simp [exeF, h, hr]
theorem exeF_full {d : DayC} {l : LogR} {line : ByteArray} (h : conOk d l = true) (hr : recOk line ⟨#[]⟩ = true) (hn : l.n = 60) : exeF d l line = (d, l, bs [102, 117, 108, 108]) := by
  unfold conOk at h; simp [exeF, h, hr, hn]
theorem exeF_main {d : DayC} {l : LogR} {line : ByteArray} (h : conOk d l = true) (hr : recOk line ⟨#[]⟩ = true) (hn : l.n ≠ 60) :
    exeF d l line = ((orNo d (runC d line)).1, (appF l ⟨line, cutR (orNo d (runC d line)).2⟩).1, cutR (orNo d (runC d line)).2) := by
  unfold conOk at h
  unfold exeF
  rw [h, hr, if_neg hn]
  simp only [Bool.not_true, Bool.false_eq_true, if_false]
  cases runC d line with
  | none => rfl
  | some p => rfl
/-- What ExecuteCommand hands back. -/
def CmdPost (B : Nat) (p : DayC × LogR × ByteArray) (e : Ending) (w' : World) : Prop :=
  ∃ A' c', e = .returned (.tuple #[ConV.val ⟨⟨p.1, A', c'⟩, p.2.1⟩, .string p.2.2]) ∧ OwnF B 80 2 LineR.row w' A' p.1.lines

set_option maxHeartbeats 8000000 in
theorem i_ExecuteCommand (v : DayV) (l : LogR) (line : ByteArray) (w : World) (hv : Sl w 2 LineR.row v.A v.core.lines) (h8 : v.core.lines.length ≤ 1048576) (h1 : l.d.size ≤ 2097152) (h2 : l.p.size ≤ 2097152) (hls : line.size ≤ 4194304) (hE : Env w) (hY : Syn w) :
    Calls Tryz.prog 8 #[ConV.val ⟨v, l⟩, .string line] w fun e w' => CmdPost w.heap.size (exeF v.core l line) e w' ∧ ∃ g, w' = plus w g := by
  have HL := hid hv
  have HE := hid hE
  have HY := hid hY
  have HV := hid (DayV.At.mk (v := v) hv (by unfold maxLen; omega))
  clear hv hE hY
  cases hc : conOk v.core l
  · have HC := hid hc
    have HF := hid (exeF_no (line := line) hc)
    clear hc
    go_enter Tryz.func8, Tryz.ntmps8
    go_wp2_with fail
    refine (i_IsValidConsole v l _ HC.out _ (HV.out.grew (by (repeat (first | with_reducible exact grew_refl _ | with_reducible assumption | with_reducible refine grew_split ?_ | with_reducible refine grew_mk ?_ | with_reducible refine grew_plus ?_ | with_reducible refine grew_alloc ?_ | with_reducible refine grew_drew ?_ | (with_reducible refine grew_set ?_ (by first | exact Nat.le_refl _ | omega | (simp [go_sem]; done) | (simp [go_sem]; omega))))))) h1 h2 (HE.out.grew (by (repeat (first | with_reducible exact grew_refl _ | with_reducible assumption | with_reducible refine grew_split ?_ | with_reducible refine grew_mk ?_ | with_reducible refine grew_plus ?_ | with_reducible refine grew_alloc ?_ | with_reducible refine grew_drew ?_ | (with_reducible refine grew_set ?_ (by first | exact Nat.le_refl _ | omega | (simp [go_sem]; done) | (simp [go_sem]; omega)))))))).mono ?_
    (rintro e w' ⟨rfl, gx, rfl⟩)
    go_wp2_with fail
    refine (i_newConsole v l _ (HL.out.grew (by (repeat (first | with_reducible exact grew_refl _ | with_reducible assumption | with_reducible refine grew_split ?_ | with_reducible refine grew_mk ?_ | with_reducible refine grew_plus ?_ | with_reducible refine grew_alloc ?_ | with_reducible refine grew_drew ?_ | (with_reducible refine grew_set ?_ (by first | exact Nat.le_refl _ | omega | (simp [go_sem]; done) | (simp [go_sem]; omega))))))) h8).mono ?_
    (rintro e w' ⟨⟨A1, c1, rfl, hO1⟩, g1, rfl⟩; (try rw [plus_plus] at hO1); have HO1 := hid hO1; clear hO1; go_wp2_with fail; refine bodyPost_ret (v := .tuple #[ConV.val ⟨⟨v.core, A1, c1⟩, l⟩, .string (bs [110, 111])]) (by simp [results, Tryz.results8, go_sem, *]; try rfl) rfl ?_; refine ⟨⟨A1, c1, by rw [HF.out], ?_⟩, by (repeat (first | with_reducible exact grew_refl _ | with_reducible assumption | with_reducible refine grew_split ?_ | with_reducible refine grew_mk ?_ | with_reducible refine grew_plus ?_ | with_reducible refine grew_alloc ?_ | with_reducible refine grew_drew ?_ | (with_reducible refine grew_set ?_ (by first | exact Nat.le_refl _ | omega | (simp [go_sem]; done) | (simp [go_sem]; omega)))))⟩; rw [HF.out]; exact (OwnF.less (OwnF.base HO1.out (by first | (simp [go_sem]; done) | (simp [go_sem]; omega)) (by simp [go_sem])) (by first | (simp [go_sem]; done) | (simp [go_sem]; omega))))
  have HC := hid hc
  cases hr : recOk line ⟨#[]⟩
  · have HR := hid hr
    have HF := hid (exeF_bad hc hr)
    clear hc hr
    go_enter Tryz.func8, Tryz.ntmps8
    go_wp2_with fail
    refine (i_IsValidConsole v l _ HC.out _ (HV.out.grew (by (repeat (first | with_reducible exact grew_refl _ | with_reducible assumption | with_reducible refine grew_split ?_ | with_reducible refine grew_mk ?_ | with_reducible refine grew_plus ?_ | with_reducible refine grew_alloc ?_ | with_reducible refine grew_drew ?_ | (with_reducible refine grew_set ?_ (by first | exact Nat.le_refl _ | omega | (simp [go_sem]; done) | (simp [go_sem]; omega))))))) h1 h2 (HE.out.grew (by (repeat (first | with_reducible exact grew_refl _ | with_reducible assumption | with_reducible refine grew_split ?_ | with_reducible refine grew_mk ?_ | with_reducible refine grew_plus ?_ | with_reducible refine grew_alloc ?_ | with_reducible refine grew_drew ?_ | (with_reducible refine grew_set ?_ (by first | exact Nat.le_refl _ | omega | (simp [go_sem]; done) | (simp [go_sem]; omega)))))))).mono ?_
    (rintro e w' ⟨rfl, gx, rfl⟩)
    go_wp2_with fail
    refine (i_IsValidRecord line ⟨#[]⟩ _ HR.out _ (by unfold maxLen; omega) (by decide)).mono ?_
    (rintro e w' ⟨rfl, gx, rfl⟩)
    go_wp2_with fail
    refine (i_newConsole v l _ (HL.out.grew (by (repeat (first | with_reducible exact grew_refl _ | with_reducible assumption | with_reducible refine grew_split ?_ | with_reducible refine grew_mk ?_ | with_reducible refine grew_plus ?_ | with_reducible refine grew_alloc ?_ | with_reducible refine grew_drew ?_ | (with_reducible refine grew_set ?_ (by first | exact Nat.le_refl _ | omega | (simp [go_sem]; done) | (simp [go_sem]; omega))))))) h8).mono ?_
    (rintro e w' ⟨⟨A1, c1, rfl, hO1⟩, g1, rfl⟩; (try rw [plus_plus] at hO1); have HO1 := hid hO1; clear hO1; go_wp2_with fail; refine bodyPost_ret (v := .tuple #[ConV.val ⟨⟨v.core, A1, c1⟩, l⟩, .string (bs [98, 97, 100])]) (by simp [results, Tryz.results8, go_sem, *]; try rfl) rfl ?_; refine ⟨⟨A1, c1, by rw [HF.out], ?_⟩, by (repeat (first | with_reducible exact grew_refl _ | with_reducible assumption | with_reducible refine grew_split ?_ | with_reducible refine grew_mk ?_ | with_reducible refine grew_plus ?_ | with_reducible refine grew_alloc ?_ | with_reducible refine grew_drew ?_ | (with_reducible refine grew_set ?_ (by first | exact Nat.le_refl _ | omega | (simp [go_sem]; done) | (simp [go_sem]; omega)))))⟩; rw [HF.out]; exact (OwnF.less (OwnF.base HO1.out (by first | (simp [go_sem]; done) | (simp [go_sem]; omega)) (by simp [go_sem])) (by first | (simp [go_sem]; done) | (simp [go_sem]; omega))))
  have HR := hid hr
  by_cases hn : l.n = 60
  · have HF := hid (exeF_full hc hr hn)
    have hn' : (l.n == 60) = true := by simp [hn]
    clear hc hr hn
    go_enter Tryz.func8, Tryz.ntmps8
    go_wp2_with fail
    refine (i_IsValidConsole v l _ HC.out _ (HV.out.grew (by (repeat (first | with_reducible exact grew_refl _ | with_reducible assumption | with_reducible refine grew_split ?_ | with_reducible refine grew_mk ?_ | with_reducible refine grew_plus ?_ | with_reducible refine grew_alloc ?_ | with_reducible refine grew_drew ?_ | (with_reducible refine grew_set ?_ (by first | exact Nat.le_refl _ | omega | (simp [go_sem]; done) | (simp [go_sem]; omega))))))) h1 h2 (HE.out.grew (by (repeat (first | with_reducible exact grew_refl _ | with_reducible assumption | with_reducible refine grew_split ?_ | with_reducible refine grew_mk ?_ | with_reducible refine grew_plus ?_ | with_reducible refine grew_alloc ?_ | with_reducible refine grew_drew ?_ | (with_reducible refine grew_set ?_ (by first | exact Nat.le_refl _ | omega | (simp [go_sem]; done) | (simp [go_sem]; omega)))))))).mono ?_
    (rintro e w' ⟨rfl, gx, rfl⟩)
    go_wp2_with fail
    refine (i_IsValidRecord line ⟨#[]⟩ _ HR.out _ (by unfold maxLen; omega) (by decide)).mono ?_
    (rintro e w' ⟨rfl, gx, rfl⟩)
    go_wp2_with fail
    refine (i_newConsole v l _ (HL.out.grew (by (repeat (first | with_reducible exact grew_refl _ | with_reducible assumption | with_reducible refine grew_split ?_ | with_reducible refine grew_mk ?_ | with_reducible refine grew_plus ?_ | with_reducible refine grew_alloc ?_ | with_reducible refine grew_drew ?_ | (with_reducible refine grew_set ?_ (by first | exact Nat.le_refl _ | omega | (simp [go_sem]; done) | (simp [go_sem]; omega))))))) h8).mono ?_
    (rintro e w' ⟨⟨A1, c1, rfl, hO1⟩, g1, rfl⟩; (try rw [plus_plus] at hO1); have HO1 := hid hO1; clear hO1; go_wp2_with fail; refine bodyPost_ret (v := .tuple #[ConV.val ⟨⟨v.core, A1, c1⟩, l⟩, .string (bs [102, 117, 108, 108])]) (by simp [results, Tryz.results8, go_sem, *]; try rfl) rfl ?_; refine ⟨⟨A1, c1, by rw [HF.out], ?_⟩, by (repeat (first | with_reducible exact grew_refl _ | with_reducible assumption | with_reducible refine grew_split ?_ | with_reducible refine grew_mk ?_ | with_reducible refine grew_plus ?_ | with_reducible refine grew_alloc ?_ | with_reducible refine grew_drew ?_ | (with_reducible refine grew_set ?_ (by first | exact Nat.le_refl _ | omega | (simp [go_sem]; done) | (simp [go_sem]; omega)))))⟩; rw [HF.out]; exact (OwnF.less (OwnF.base HO1.out (by first | (simp [go_sem]; done) | (simp [go_sem]; omega)) (by simp [go_sem])) (by first | (simp [go_sem]; done) | (simp [go_sem]; omega))))
  have HFM := hid (exeF_main hc hr hn)
  have hn' : (l.n == 60) = false := by simp [hn]
  obtain ⟨hdk, _⟩ := conOk_parts hc
  have HDK := hid hdk
  clear hc hr hn hdk
  go_enter Tryz.func8, Tryz.ntmps8
  go_wp2_with fail
  refine (i_IsValidConsole v l _ HC.out _ (HV.out.grew (by (repeat (first | with_reducible exact grew_refl _ | with_reducible assumption | with_reducible refine grew_split ?_ | with_reducible refine grew_mk ?_ | with_reducible refine grew_plus ?_ | with_reducible refine grew_alloc ?_ | with_reducible refine grew_drew ?_ | (with_reducible refine grew_set ?_ (by first | exact Nat.le_refl _ | omega | (simp [go_sem]; done) | (simp [go_sem]; omega))))))) h1 h2 (HE.out.grew (by (repeat (first | with_reducible exact grew_refl _ | with_reducible assumption | with_reducible refine grew_split ?_ | with_reducible refine grew_mk ?_ | with_reducible refine grew_plus ?_ | with_reducible refine grew_alloc ?_ | with_reducible refine grew_drew ?_ | (with_reducible refine grew_set ?_ (by first | exact Nat.le_refl _ | omega | (simp [go_sem]; done) | (simp [go_sem]; omega)))))))).mono ?_
  rintro e w' ⟨rfl, ga, rfl⟩
  go_wp2_with fail
  refine (i_IsValidRecord line ⟨#[]⟩ _ HR.out _ (by unfold maxLen; omega) (by decide)).mono ?_
  rintro e w' ⟨rfl, gb, rfl⟩
  go_wp2_with fail
  refine (i_newConsole v l _ (HL.out.grew (by (repeat (first | with_reducible exact grew_refl _ | with_reducible assumption | with_reducible refine grew_split ?_ | with_reducible refine grew_mk ?_ | with_reducible refine grew_plus ?_ | with_reducible refine grew_alloc ?_ | with_reducible refine grew_drew ?_ | (with_reducible refine grew_set ?_ (by first | exact Nat.le_refl _ | omega | (simp [go_sem]; done) | (simp [go_sem]; omega))))))) h8).mono ?_
  rintro e w' ⟨⟨A1, c1, rfl, hO1⟩, g1, rfl⟩
  (try rw [plus_plus] at hO1)
  have HO1 := hid hO1
  clear hO1
  go_upto_region 8 with fail
  generalize hb6 : w.heap.size + 1 + 1 + ((ga.add gb).add g1).objs.size = b6
  have hb6w : w.heap.size + 1 < b6 := by omega
  refine opq_wp (fun wr => Blk wr (w.heap.size + 1) 30 #[.int .i64 0, .int .i64 0, .slice none 0 0, .int .i64 0, .int .i64 0, .int .i64 0, .int .i64 0, .string ⟨#[]⟩, .string ⟨#[]⟩, .int .i64 0] ∧ Blk wr b6 30 #[.int .i64 (v.core).minute, .int .i64 (v.core).state, .slice A1 (v.core).lines.length c1, .int .i64 (v.core).line, .int .i64 (v.core).since, .int .i64 (v.core).cast, .int .i64 (v.core).fuel, .string (l).d, .string (l).p, .int .i64 (l).n] ∧ OwnF (w.heap.size + 2) 80 2 LineR.row wr A1 (v.core).lines ∧ ∃ g, wr = plus w g) ⟨blk_grew (blk_new (w := w.alloc _) (by simp)) (by (repeat (first | with_reducible exact grew_refl _ | with_reducible assumption | with_reducible refine grew_split ?_ | with_reducible refine grew_mk ?_ | with_reducible refine grew_plus ?_ | with_reducible refine grew_alloc ?_ | with_reducible refine grew_drew ?_ | (with_reducible refine grew_set ?_ (by first | exact Nat.le_refl _ | omega | (simp [go_sem]; done) | (simp [go_sem]; omega)))))), blk_new (by subst hb6; simp [go_sem]), OwnF.less (OwnF.grew HO1.out (by (repeat (first | with_reducible exact grew_refl _ | with_reducible assumption | with_reducible refine grew_split ?_ | with_reducible refine grew_mk ?_ | with_reducible refine grew_plus ?_ | with_reducible refine grew_alloc ?_ | with_reducible refine grew_drew ?_ | (with_reducible refine grew_set ?_ (by first | exact Nat.le_refl _ | omega | (simp [go_sem]; done) | (simp [go_sem]; omega))))))) (by first | (simp [go_sem]; done) | (simp [go_sem]; omega)), by (repeat (first | with_reducible exact grew_refl _ | with_reducible assumption | with_reducible refine grew_split ?_ | with_reducible refine grew_mk ?_ | with_reducible refine grew_plus ?_ | with_reducible refine grew_alloc ?_ | with_reducible refine grew_drew ?_ | (with_reducible refine grew_set ?_ (by first | exact Nat.le_refl _ | omega | (simp [go_sem]; done) | (simp [go_sem]; omega)))))⟩ ?_
  clear hb6 HO1
  rintro wr ⟨hR, hB, hO, hg⟩
  have HR6 := hid hR
  have hB0 := hB
  have hbl := hB.lt
  have hrl := hR.lt
  (have hd0 := hB.cell 0; have hd1 := hB.cell 1; have hd2 := hB.cell 2; have hd3 := hB.cell 3; have hd4 := hB.cell 4; have hd5 := hB.cell 5; have hd6 := hB.cell 6; have hd7 := hB.cell 7; have hd8 := hB.cell 8; have hd9 := hB.cell 9; simp [go_sem] at hd0 hd1 hd2 hd3 hd4 hd5 hd6 hd7 hd8 hd9)
  (have he0 := hR.cell 0; have he1 := hR.cell 1; have he2 := hR.cell 2; have he3 := hR.cell 3; have he4 := hR.cell 4; have he5 := hR.cell 5; have he6 := hR.cell 6; have he7 := hR.cell 7; have he8 := hR.cell 8; have he9 := hR.cell 9; simp [go_sem] at he0 he1 he2 he3 he4 he5 he6 he7 he8 he9)
  (have fd0 := hB.frozen 0; have fd1 := hB.frozen 1; have fd2 := hB.frozen 2; have fd3 := hB.frozen 3; have fd4 := hB.frozen 4; have fd5 := hB.frozen 5; have fd6 := hB.frozen 6; have fd7 := hB.frozen 7; have fd8 := hB.frozen 8; have fd9 := hB.frozen 9)
  (have fe0 := hR.frozen 0; have fe1 := hR.frozen 1; have fe2 := hR.frozen 2; have fe3 := hR.frozen 3; have fe4 := hR.frozen 4; have fe5 := hR.frozen 5; have fe6 := hR.frozen 6; have fe7 := hR.frozen 7; have fe8 := hR.frozen 8; have fe9 := hR.frozen 9)
  have HO := hid hO
  have HG := hid hg
  have HB := hid hB
  clear hB0 hB hR hO hg
  go_wp2_with fail
  refine (i_execute ⟨v.core, A1, c1⟩ line (w.heap.size + 2) _ (HO.out.grew (by (repeat (first | with_reducible exact grew_refl _ | with_reducible assumption | with_reducible refine grew_split ?_ | with_reducible refine grew_mk ?_ | with_reducible refine grew_plus ?_ | with_reducible refine grew_alloc ?_ | with_reducible refine grew_drew ?_ | (with_reducible refine grew_set ?_ (by first | exact Nat.le_refl _ | omega | (simp [go_sem]; done) | (simp [go_sem]; omega))))))) (by have := (below_of_grew HG.out).size; omega) HDK.out hls (HE.out.grew HG.out) (HY.out.grew HG.out)).mono ?_
  rintro e w' ⟨⟨d3, A3, c3, r3, rfl, hp3⟩, g3, rfl⟩
  have HP3 := hid hp3
  clear hp3
  obtain ⟨q, hq⟩ : ∃ q, runC v.core line = q := ⟨_, rfl⟩
  rw [hq] at HP3 HFM ⊢
  clear hq
  cases q with
  | none =>
    have HF : Hid (exeF v.core l line = (v.core, (appF l ⟨line, bs [63]⟩).1, bs [63])) := hid (by rw [HFM.out]; rfl)
    clear HFM HP3
    go_upto_region 12 with fail
    refine opq_wp (fun wr => Blk wr (w.heap.size + 1) 30 #[.int .i64 0, .int .i64 0, .slice none 0 0, .int .i64 0, .int .i64 0, .int .i64 0, .int .i64 0, .string ⟨#[]⟩, .string ⟨#[]⟩, .int .i64 0] ∧ Blk wr b6 30 #[.int .i64 (v.core).minute, .int .i64 (v.core).state, .slice A1 (v.core).lines.length c1, .int .i64 (v.core).line, .int .i64 (v.core).since, .int .i64 (v.core).cast, .int .i64 (v.core).fuel, .string (l).d, .string (l).p, .int .i64 (l).n] ∧ OwnF (w.heap.size + 2) 80 2 LineR.row wr A1 v.core.lines ∧ ∃ g, wr = plus w g) ⟨?_, ?_, ?_, ?_⟩ ?_
    · exact Blk.alloc (Blk.plus HR6.out _) _
    · exact Blk.alloc (Blk.plus HB.out _) _
    · exact OwnF.grew HO.out (by (repeat (first | with_reducible exact grew_refl _ | with_reducible assumption | with_reducible refine grew_split ?_ | with_reducible refine grew_mk ?_ | with_reducible refine grew_plus ?_ | with_reducible refine grew_alloc ?_ | with_reducible refine grew_drew ?_ | (with_reducible refine grew_set ?_ (by first | exact Nat.le_refl _ | omega | (simp [go_sem]; done) | (simp [go_sem]; omega))))))
    · have hg := HG.out
      (repeat (first | with_reducible exact grew_refl _ | with_reducible assumption | with_reducible refine grew_split ?_ | with_reducible refine grew_mk ?_ | with_reducible refine grew_plus ?_ | with_reducible refine grew_alloc ?_ | with_reducible refine grew_drew ?_ | (with_reducible refine grew_set ?_ (by first | exact Nat.le_refl _ | omega | (simp [go_sem]; done) | (simp [go_sem]; omega)))))
    clear hd0 hd1 hd2 hd3 hd4 hd5 hd6 hd7 hd8 hd9 he0 he1 he2 he3 he4 he5 he6 he7 he8 he9 fd0 fd1 fd2 fd3 fd4 fd5 fd6 fd7 fd8 fd9 fe0 fe1 fe2 fe3 fe4 fe5 fe6 fe7 fe8 fe9 HO HG HB HR6 hbl hrl
    rintro wr ⟨hR, hB, hO, hg⟩
    have HR6 := hid hR
    have hB0 := hB
    have hbl := hB.lt
    have hrl := hR.lt
    (have hd0 := hB.cell 0; have hd1 := hB.cell 1; have hd2 := hB.cell 2; have hd3 := hB.cell 3; have hd4 := hB.cell 4; have hd5 := hB.cell 5; have hd6 := hB.cell 6; have hd7 := hB.cell 7; have hd8 := hB.cell 8; have hd9 := hB.cell 9; simp [go_sem] at hd0 hd1 hd2 hd3 hd4 hd5 hd6 hd7 hd8 hd9)
    (have he0 := hR.cell 0; have he1 := hR.cell 1; have he2 := hR.cell 2; have he3 := hR.cell 3; have he4 := hR.cell 4; have he5 := hR.cell 5; have he6 := hR.cell 6; have he7 := hR.cell 7; have he8 := hR.cell 8; have he9 := hR.cell 9; simp [go_sem] at he0 he1 he2 he3 he4 he5 he6 he7 he8 he9)
    (have fd0 := hB.frozen 0; have fd1 := hB.frozen 1; have fd2 := hB.frozen 2; have fd3 := hB.frozen 3; have fd4 := hB.frozen 4; have fd5 := hB.frozen 5; have fd6 := hB.frozen 6; have fd7 := hB.frozen 7; have fd8 := hB.frozen 8; have fd9 := hB.frozen 9)
    (have fe0 := hR.frozen 0; have fe1 := hR.frozen 1; have fe2 := hR.frozen 2; have fe3 := hR.frozen 3; have fe4 := hR.frozen 4; have fe5 := hR.frozen 5; have fe6 := hR.frozen 6; have fe7 := hR.frozen 7; have fe8 := hR.frozen 8; have fe9 := hR.frozen 9)
    have HO := hid hO
    have HG := hid hg
    have HB := hid hB
    clear hB0 hB hR hO hg
    go_wp2_with fail
    (have hzw := (below_of_grew HG.out).size; refine (i_AppendRecord l ⟨line, bs [63]⟩ _ h1 h2 (by unfold maxLen; simp only; omega) (show (bs [63]).size ≤ maxLen by decide) (HE.out.grew (grew_two' HG.out (by (repeat (first | with_reducible exact grew_refl _ | with_reducible assumption | with_reducible refine grew_split ?_ | with_reducible refine grew_mk ?_ | with_reducible refine grew_plus ?_ | with_reducible refine grew_alloc ?_ | with_reducible refine grew_drew ?_ | (with_reducible refine grew_set ?_ (by first | exact Nat.le_refl _ | omega | (simp [go_sem]; done) | (simp [go_sem]; omega))))))))).mono ?_; rintro e w' ⟨rfl, gx, rfl⟩; go_wp2_with fail; refine bodyPost_ret (v := .tuple #[ConV.val ⟨⟨v.core, A1, c1⟩, ((appF l ⟨line, (bs [63])⟩).1)⟩, .string (bs [63])]) (by simp [results, Tryz.results8, go_sem, *]; try rfl) rfl ?_; have hg := HG.out; refine ⟨⟨A1, c1, by rw [HF.out], ?_⟩, by (repeat (first | with_reducible exact grew_refl _ | with_reducible assumption | with_reducible refine grew_split ?_ | with_reducible refine grew_mk ?_ | with_reducible refine grew_plus ?_ | with_reducible refine grew_alloc ?_ | with_reducible refine grew_drew ?_ | (with_reducible refine grew_set ?_ (by first | exact Nat.le_refl _ | omega | (simp [go_sem]; done) | (simp [go_sem]; omega)))))⟩; rw [HF.out]; have h1 := OwnF.apart (w' := ((wr.setCell ⟨b6, 7, none⟩ (.string (appF l ⟨line, (bs [63])⟩).1.d)).setCell ⟨b6, 8, none⟩ (.string (appF l ⟨line, (bs [63])⟩).1.p)).setCell ⟨b6, 9, none⟩ (.int .i64 (appF l ⟨line, (bs [63])⟩).1.n)) HO.out HB.out (by decide) (grown_set (grown_set (grown_set (grown_refl _ _)))); exact (OwnF.kept h1 (row := some (w.heap.size + 1)) (by (repeat (first | with_reducible exact grown_refl _ _ | with_reducible assumption | with_reducible refine gb_plus ?_ | with_reducible refine gb_alloc ?_ | with_reducible refine gb_drew ?_ | with_reducible refine grown_set ?_))) (fun k hk => by injection hk with hk; omega)).less (by omega))
  | some p =>
    obtain ⟨d, r⟩ := p
    obtain ⟨e1, e2, hO3⟩ := HP3.out _ rfl
    obtain rfl : d = d3 := e1.symm
    obtain rfl : r = r3 := e2.symm
    clear e1 e2
    have HO3 := hid hO3
    simp only at HO3
    clear hO3
    go_upto_region 12 with fail
    refine opq_wp (fun wr => Blk wr (w.heap.size + 1) 30 #[.int .i64 0, .int .i64 0, .slice none 0 0, .int .i64 0, .int .i64 0, .int .i64 0, .int .i64 0, .string ⟨#[]⟩, .string ⟨#[]⟩, .int .i64 0] ∧ Blk wr b6 30 #[.int .i64 (d).minute, .int .i64 (d).state, .slice A3 (d).lines.length c3, .int .i64 (d).line, .int .i64 (d).since, .int .i64 (d).cast, .int .i64 (d).fuel, .string (l).d, .string (l).p, .int .i64 (l).n] ∧ OwnF (w.heap.size + 2) 80 2 LineR.row wr A3 d.lines ∧ ∃ g, wr = plus w g) ⟨?_, ?_, ?_, ?_⟩ ?_
    · exact HR6.out.grown (row := some b6) (by (repeat (first | with_reducible exact grown_refl _ _ | with_reducible assumption | with_reducible refine gb_plus ?_ | with_reducible refine gb_alloc ?_ | with_reducible refine gb_drew ?_ | with_reducible refine grown_set ?_))) (fun e => by injection e with e; omega)
    · exact Blk.alloc (Blk.plus (((((((HB.out.set_ 0 _).set_ 1 _).set_ 2 _).set_ 3 _).set_ 4 _).set_ 5 _).set_ 6 _) _) _
    · refine OwnF.grew ?_ (grew_alloc (grew_refl _))
      exact OwnF.apart HO3.out (Blk.plus HB.out _) (by decide) (gb_base (by (repeat (first | with_reducible exact grown_refl _ _ | with_reducible assumption | with_reducible refine gb_plus ?_ | with_reducible refine gb_alloc ?_ | with_reducible refine gb_drew ?_ | with_reducible refine grown_set ?_))) (by simp))
    · have hg := HG.out
      have hzw := (below_of_grew hg).size
      (repeat (first | with_reducible exact grew_refl _ | with_reducible assumption | with_reducible refine grew_split ?_ | with_reducible refine grew_mk ?_ | with_reducible refine grew_plus ?_ | with_reducible refine grew_alloc ?_ | with_reducible refine grew_drew ?_ | (with_reducible refine grew_set ?_ (by first | exact Nat.le_refl _ | omega | (simp [go_sem]; done) | (simp [go_sem]; omega)))))
    clear hd0 hd1 hd2 hd3 hd4 hd5 hd6 hd7 hd8 hd9 he0 he1 he2 he3 he4 he5 he6 he7 he8 he9 fd0 fd1 fd2 fd3 fd4 fd5 fd6 fd7 fd8 fd9 fe0 fe1 fe2 fe3 fe4 fe5 fe6 fe7 fe8 fe9 HO HG HB HR6 HO3 HP3 hbl hrl
    rintro wr ⟨hR, hB, hO, hg⟩
    have HR6 := hid hR
    have hB0 := hB
    have hbl := hB.lt
    have hrl := hR.lt
    (have hd0 := hB.cell 0; have hd1 := hB.cell 1; have hd2 := hB.cell 2; have hd3 := hB.cell 3; have hd4 := hB.cell 4; have hd5 := hB.cell 5; have hd6 := hB.cell 6; have hd7 := hB.cell 7; have hd8 := hB.cell 8; have hd9 := hB.cell 9; simp [go_sem] at hd0 hd1 hd2 hd3 hd4 hd5 hd6 hd7 hd8 hd9)
    (have he0 := hR.cell 0; have he1 := hR.cell 1; have he2 := hR.cell 2; have he3 := hR.cell 3; have he4 := hR.cell 4; have he5 := hR.cell 5; have he6 := hR.cell 6; have he7 := hR.cell 7; have he8 := hR.cell 8; have he9 := hR.cell 9; simp [go_sem] at he0 he1 he2 he3 he4 he5 he6 he7 he8 he9)
    (have fd0 := hB.frozen 0; have fd1 := hB.frozen 1; have fd2 := hB.frozen 2; have fd3 := hB.frozen 3; have fd4 := hB.frozen 4; have fd5 := hB.frozen 5; have fd6 := hB.frozen 6; have fd7 := hB.frozen 7; have fd8 := hB.frozen 8; have fd9 := hB.frozen 9)
    (have fe0 := hR.frozen 0; have fe1 := hR.frozen 1; have fe2 := hR.frozen 2; have fe3 := hR.frozen 3; have fe4 := hR.frozen 4; have fe5 := hR.frozen 5; have fe6 := hR.frozen 6; have fe7 := hR.frozen 7; have fe8 := hR.frozen 8; have fe9 := hR.frozen 9)
    have HO := hid hO
    have HG := hid hg
    have HB := hid hB
    clear hB0 hB hR hO hg
    have HF0 : Hid (exeF v.core l line = (d, (appF l ⟨line, cutR r⟩).1, cutR r)) := hid HFM.out
    clear HFM
    by_cases hlong : 200 < r.size
    · have HF : Hid (exeF v.core l line = (d, (appF l ⟨line, bs [108, 111, 110, 103]⟩).1, bs [108, 111, 110, 103])) := hid (by rw [HF0.out, cutR, if_pos hlong])
      have hlI : (200 : Int) < (r.size : Int) := by omega
      clear HF0 hlong
      go_wp2_with fail
      (have hzw := (below_of_grew HG.out).size; refine (i_AppendRecord l ⟨line, bs [108, 111, 110, 103]⟩ _ h1 h2 (by unfold maxLen; simp only; omega) (show (bs [108, 111, 110, 103]).size ≤ maxLen by decide) (HE.out.grew (grew_two' HG.out (by (repeat (first | with_reducible exact grew_refl _ | with_reducible assumption | with_reducible refine grew_split ?_ | with_reducible refine grew_mk ?_ | with_reducible refine grew_plus ?_ | with_reducible refine grew_alloc ?_ | with_reducible refine grew_drew ?_ | (with_reducible refine grew_set ?_ (by first | exact Nat.le_refl _ | omega | (simp [go_sem]; done) | (simp [go_sem]; omega))))))))).mono ?_; rintro e w' ⟨rfl, gx, rfl⟩; go_wp2_with fail; refine bodyPost_ret (v := .tuple #[ConV.val ⟨⟨d, A3, c3⟩, ((appF l ⟨line, (bs [108, 111, 110, 103])⟩).1)⟩, .string (bs [108, 111, 110, 103])]) (by simp [results, Tryz.results8, go_sem, *]; try rfl) rfl ?_; have hg := HG.out; refine ⟨⟨A3, c3, by rw [HF.out], ?_⟩, by (repeat (first | with_reducible exact grew_refl _ | with_reducible assumption | with_reducible refine grew_split ?_ | with_reducible refine grew_mk ?_ | with_reducible refine grew_plus ?_ | with_reducible refine grew_alloc ?_ | with_reducible refine grew_drew ?_ | (with_reducible refine grew_set ?_ (by first | exact Nat.le_refl _ | omega | (simp [go_sem]; done) | (simp [go_sem]; omega)))))⟩; rw [HF.out]; have h1 := OwnF.apart (w' := ((wr.setCell ⟨b6, 7, none⟩ (.string (appF l ⟨line, (bs [108, 111, 110, 103])⟩).1.d)).setCell ⟨b6, 8, none⟩ (.string (appF l ⟨line, (bs [108, 111, 110, 103])⟩).1.p)).setCell ⟨b6, 9, none⟩ (.int .i64 (appF l ⟨line, (bs [108, 111, 110, 103])⟩).1.n)) HO.out HB.out (by decide) (grown_set (grown_set (grown_set (grown_refl _ _)))); exact (OwnF.kept h1 (row := some (w.heap.size + 1)) (by (repeat (first | with_reducible exact grown_refl _ _ | with_reducible assumption | with_reducible refine gb_plus ?_ | with_reducible refine gb_alloc ?_ | with_reducible refine gb_drew ?_ | with_reducible refine grown_set ?_))) (fun k hk => by injection hk with hk; omega)).less (by omega))
    · have HF : Hid (exeF v.core l line = (d, (appF l ⟨line, r⟩).1, r)) := hid (by rw [HF0.out, cutR, if_neg hlong])
      have hlI : ¬ (200 : Int) < (r.size : Int) := by omega
      clear HF0
      go_wp2_with fail
      (have hzw := (below_of_grew HG.out).size; refine (i_AppendRecord l ⟨line, r⟩ _ h1 h2 (by unfold maxLen; simp only; omega) (by unfold maxLen; simp only; omega) (HE.out.grew (grew_two' HG.out (by (repeat (first | with_reducible exact grew_refl _ | with_reducible assumption | with_reducible refine grew_split ?_ | with_reducible refine grew_mk ?_ | with_reducible refine grew_plus ?_ | with_reducible refine grew_alloc ?_ | with_reducible refine grew_drew ?_ | (with_reducible refine grew_set ?_ (by first | exact Nat.le_refl _ | omega | (simp [go_sem]; done) | (simp [go_sem]; omega))))))))).mono ?_; rintro e w' ⟨rfl, gx, rfl⟩; go_wp2_with fail; refine bodyPost_ret (v := .tuple #[ConV.val ⟨⟨d, A3, c3⟩, ((appF l ⟨line, r⟩).1)⟩, .string r]) (by simp [results, Tryz.results8, go_sem, *]; try rfl) rfl ?_; have hg := HG.out; refine ⟨⟨A3, c3, by rw [HF.out], ?_⟩, by (repeat (first | with_reducible exact grew_refl _ | with_reducible assumption | with_reducible refine grew_split ?_ | with_reducible refine grew_mk ?_ | with_reducible refine grew_plus ?_ | with_reducible refine grew_alloc ?_ | with_reducible refine grew_drew ?_ | (with_reducible refine grew_set ?_ (by first | exact Nat.le_refl _ | omega | (simp [go_sem]; done) | (simp [go_sem]; omega)))))⟩; rw [HF.out]; have h1 := OwnF.apart (w' := ((wr.setCell ⟨b6, 7, none⟩ (.string (appF l ⟨line, r⟩).1.d)).setCell ⟨b6, 8, none⟩ (.string (appF l ⟨line, r⟩).1.p)).setCell ⟨b6, 9, none⟩ (.int .i64 (appF l ⟨line, r⟩).1.n)) HO.out HB.out (by decide) (grown_set (grown_set (grown_set (grown_refl _ _)))); exact (OwnF.kept h1 (row := some (w.heap.size + 1)) (by (repeat (first | with_reducible exact grown_refl _ _ | with_reducible assumption | with_reducible refine gb_plus ?_ | with_reducible refine gb_alloc ?_ | with_reducible refine gb_drew ?_ | with_reducible refine grown_set ?_))) (fun k hk => by injection hk with hk; omega)).less (by omega))
end Go.Proofs.YtecghfcgahgfiaaGreatDoor
