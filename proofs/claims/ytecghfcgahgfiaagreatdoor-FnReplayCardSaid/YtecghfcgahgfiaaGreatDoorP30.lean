import Derived.Test.YtecghfcgahgfiaaGreatDoorP29
import Derived.Test.YtecghfcgahgfiaaGreatDoorP18
import Derived.Test.YtecghfcgahgfiaaGreatDoorP26
import Derived.Test.YtecghfcgahgfiaaGreatDoorP13
import Derived.Test.YtecghfcgahgfiaaGreatDoorP27
import Derived.Test.YtecghfcgahgfiaaGreatDoorP28
import Derived.Deep.RegionHeld3
import Derived.Deep.DrawnRows
/- What the laws on logs ask of appended, crashed and recovered logs. No program in sight. -/
namespace Go.Proofs.YtecghfcgahgfiaaGreatDoor
open Go.RowKit

theorem extract_all (s : ByteArray) : s.extract 0 s.size = s := by simp
theorem appF_back {l : LogR} {e : RecR} (h : (appF l e).2 ≠ 0) : (appF l e).1 = l := by
  unfold appF at h ⊢
  split
  · rename_i h1
    rw [if_pos h1] at h
    split
    · rfl
    · rename_i h2
      rw [if_neg h2] at h
      exact absurd rfl h
  · rfl
theorem appF_good {l : LogR} {e : RecR} (h : (appF l e).2 = 0) : l.ok = true ∧ e.ok = true ∧ l.n < 60 ∧ (appF l e).1 = ⟨l.d, l.p ++ lineV l.n.toNat e, l.n + 1⟩ := by
  unfold appF at h ⊢
  split
  · rename_i h1
    rw [if_pos h1] at h
    simp only [Bool.and_eq_true] at h1
    split
    · rename_i h2
      rw [if_pos h2] at h
      simp at h
    · rename_i h2
      have := LogR.count h1.1
      exact ⟨h1.1, h1.2, by omega, rfl⟩
  · rename_i h1
    rw [if_neg h1] at h
    simp at h
theorem LogR.whole {l : LogR} (h : l.ok = true) : endOf (opensF (bl (l.d ++ l.p))) = (bl (l.d ++ l.p)).length := by
  rw [bl_len]; exact (l.ok_iff.1 h).1
theorem LogR.small {l : LogR} (h : l.ok = true) : (l.d ++ l.p).size ≤ 22320 := by
  rw [← (l.ok_iff.1 h).1]; exact (opensF_end _).2
/-- The records of a log to which a record is added. -/
theorem app_recs {l : LogR} {e : RecR} (h : l.ok = true) (he : e.ok = true) (hn : l.n < 60) :
    LogR.recs ⟨l.d, l.p ++ lineV l.n.toNat e, l.n + 1⟩ = l.recs ++ [(e, (e.line l.n.toNat).length + 1)] := by
  obtain ⟨_, h2, _⟩ := l.ok_iff.1 h
  have h0 := (LogR.count h).1
  have hk : l.n.toNat = l.recs.length := by omega
  have hb : bl (l.d ++ (l.p ++ lineV l.n.toNat e)) = bl (l.d ++ l.p) ++ (e.line l.n.toNat ++ [10]) := by simp only [bl_app, lineV_bytes, List.append_assoc]
  unfold LogR.recs at hk ⊢
  simp only
  rw [hb, opensF_join (LogR.whole h), ← hk, opens_one he (by omega) (by omega)]
theorem app_ok {l : LogR} {e : RecR} (h : l.ok = true) (he : e.ok = true) (hn : l.n < 60) : LogR.ok ⟨l.d, l.p ++ lineV l.n.toNat e, l.n + 1⟩ = true := by
  have hr := app_recs h he hn
  obtain ⟨h1, h2, j, h3, h4⟩ := l.ok_iff.1 h
  rw [LogR.ok_iff, hr]
  refine ⟨?_, ?_, j, ?_, ?_⟩
  · have h5 := bl_len (lineV l.n.toNat e)
    rw [lineV_bytes] at h5
    rw [endOf_app, h1]
    simp only [ByteArray.size_append] at h1 ⊢
    simp [endOf] at h5 ⊢
    omega
  · simp; omega
  · simp; omega
  · unfold endAt at h4 ⊢
    rw [List.take_append_of_le_length h3]
    exact h4
/-- What is recovered from the bytes of a log is the synchronized log. -/
theorem recov_sync {l : LogR} (h : l.ok = true) : recovF (l.d ++ l.p) = (⟨l.d ++ l.p, ⟨#[]⟩, l.n⟩, ((l.d ++ l.p).size : Int), true) ∧ syncF l = (⟨l.d ++ l.p, ⟨#[]⟩, l.n⟩, true) := by
  obtain ⟨h1, h2, _⟩ := l.ok_iff.1 h
  have h3 := LogR.small h
  unfold LogR.recs at h1 h2
  refine ⟨?_, by unfold syncF; rw [if_pos h]⟩
  unfold recovF
  rw [if_neg (by omega), h1, h2, extract_all]
theorem lrF_recs {l : LogR} (h : l.ok = true) : lrF l = l.recs.map (·.1) := by
  unfold lrF recsL
  rw [if_pos h, List.take_length]
/-- The law on logs, told of what its functions return. -/
theorem log_law {l : LogR} {e : RecR} (h : (appF l e).2 = 0) : (appF l e).1.ok = true ∧ lrF (appF l e).1 = lrF l ++ [e] ∧ (appF l e).1.n = ((lrF (appF l e).1).length : Int)
    ∧ recovF ((appF l e).1.d ++ (appF l e).1.p) = ((syncF (appF l e).1).1, (((appF l e).1.d ++ (appF l e).1.p).size : Int), true) ∧ (syncF (appF l e).1).2 = true := by
  obtain ⟨h1, h2, h3, h4⟩ := appF_good h
  have h5 := app_ok h1 h2 h3
  have h6 := app_recs h1 h2 h3
  rw [← h4] at h5 h6
  have h7 := lrF_recs h5
  rw [h6, List.map_append, ← lrF_recs h1] at h7
  obtain ⟨h8, h9⟩ := recov_sync h5
  refine ⟨h5, h7, ?_, by rw [h8, h9], by rw [h9]⟩
  have := ((appF l e).1.ok_iff.1 h5).2.1
  rw [lrF_recs h5, List.length_map]
  omega
/-- What is recovered is whole. -/
theorem recov_ok {s : ByteArray} (h : s.size ≤ 30000) : (recovF s).1.ok = true ∧ (recovF s).2.2 = true := by
  have hE := (opensF_end (bl s)).1
  rw [bl_len] at hE
  unfold recovF
  rw [if_neg (by omega)]
  refine ⟨?_, rfl⟩
  have hb : bl (s.extract 0 (endOf (opensF (bl s)))) = (bl s).take (endOf (opensF (bl s))) := by rw [bl_extract]; simp
  have hr : LogR.recs ⟨s.extract 0 (endOf (opensF (bl s))), ⟨#[]⟩, (opensF (bl s)).length⟩ = opensF (bl s) := by
    unfold LogR.recs
    simp only [bl_app]
    rw [hb]
    show opensF (_ ++ []) = _
    rw [List.append_nil, opensF_part]
  rw [LogR.ok_iff, hr]
  have hz : (s.extract 0 (endOf (opensF (bl s)))).size = endOf (opensF (bl s)) := by simp; omega
  refine ⟨?_, rfl, (opensF (bl s)).length, Nat.le_refl _, ?_⟩
  · simp only [ByteArray.size_append, hz]; rfl
  · simp only [hz]; exact endAt_len _
theorem recov_fix {s : ByteArray} (h : s.size ≤ 30000) : syncF (recovF s).1 = ((recovF s).1, true) := by
  have h1 := (recov_ok h).1
  unfold syncF
  rw [if_pos h1]
  unfold recovF
  rw [if_neg (by omega)]
  simp only
  rw [show (⟨#[]⟩ : ByteArray) = ByteArray.empty from rfl, ByteArray.append_empty]
theorem recov_big {s : ByteArray} (h : ¬ s.size ≤ 30000) : recovF s = (zLog, 0, false) := by
  unfold recovF; rw [if_pos (by omega)]
/-- A line by itself is recovered at place 0 alone. -/
theorem line_first {e : RecR} (he : e.ok = true) {k : Nat} (hk : k < 60) : (k = 0 → recovF (lineV k e) = (⟨lineV k e, ⟨#[]⟩, 1⟩, ((lineV k e).size : Int), true)) ∧ (k ≠ 0 → (recovF (lineV k e)).2.1 = 0) := by
  have hz := lineV_size he hk
  have hb := lineV_bytes k e
  have hl := bl_len (lineV k e)
  constructor
  · rintro rfl
    have ho : opensF (bl (lineV 0 e)) = [(e, (e.line 0).length + 1)] := by
      rw [hb]; exact opens_one he (by omega) (by omega)
    have hq : endOf (opensF (bl (lineV 0 e))) = (lineV 0 e).size := by
      rw [ho, ← hl, hb]; simp [endOf]
    unfold recovF
    rw [if_neg (by omega), hq, extract_all, ho]
    rfl
  · intro hk0
    have ho : opensF (bl (lineV k e)) = [] := by
      cases hh : headB (e.line k ++ [10]) 0 with
      | none => rw [hb]; exact opens_succ_none hh
      | some p =>
        obtain ⟨x, n⟩ := p
        obtain ⟨_, h2, _, h4⟩ := headB_some hh
        have h5 := congrArg (fun s => (cutB 10 s).1) h4
        rw [cutB_app 10 _ _ (line_free he k), cutB_app 10 _ _ (line_free h2 0)] at h5
        exact absurd (line_place h5 he h2) hk0
    unfold recovF
    rw [if_neg (by omega), ho]
    rfl
/-- A log that has crashed: its records are a first part of those that there were, and all that were durable are among them. -/
theorem crash_law {l : LogR} {k : Int} {torn : Bool} (h : (crashF l k torn).2 = true) :
    l.ok = true ∧ (crashF l k torn).1.size ≤ 30000 ∧ l.d.size ≤ endOf (opensF (bl (crashF l k torn).1)) ∧ endOf (opensF (bl (crashF l k torn).1)) ≤ (crashF l k torn).1.size ∧ ∃ r, l.recs = opensF (bl (crashF l k torn).1) ++ r := by
  have hc : (l.ok && inB k 0 l.p.size) = true := by
    unfold crashF at h
    split at h
    · assumption
    · simp at h
  have hF : crashF l k torn = (l.d ++ mk (turnL (bl (l.p.extract 0 k.toNat)) torn), true) := by unfold crashF; rw [if_pos hc]
  simp only [Bool.and_eq_true] at hc
  obtain ⟨ho, hk⟩ := hc
  rw [hF]
  simp only
  have hs := LogR.small ho
  have hk2 : 0 ≤ k ∧ k ≤ l.p.size := by unfold inB at hk; simpa using hk
  obtain ⟨m, rfl⟩ := Int.eq_ofNat_of_zero_le hk2.1
  have hm : m ≤ (bl l.p).length := by rw [bl_len]; omega
  have hx : bl (l.p.extract 0 ((m : Int)).toNat) = (bl l.p).take m := by rw [bl_extract]; simp
  have hlow : ∀ c ∈ bl l.p, c.toNat < 128 := by
    intro c hc
    refine opens_low 61 (bl (l.d ++ l.p)) 0 (LogR.whole ho) c ?_
    rw [bl_app]; exact List.mem_append_right _ hc
  have hsp : Spoilt (bl l.p) (turnL ((bl l.p).take m) torn) := by
    cases torn
    · rw [turn_no]; exact spoilt_take _ m hm
    · cases m with
      | zero => rw [turn_nil (by simp)]; exact spoilt_take _ 0 hm
      | succ q =>
        have hl2 : ((bl l.p).take (q + 1)).length = q + 1 := by simp; omega
        rw [turn_last hl2 (by omega)]
        refine spoilt_last _ q hm _ ?_
        have hc := hlow (((bl l.p).take (q + 1))[q]) (List.mem_of_mem_take (List.getElem_mem _))
        intro he
        have := congrArg UInt8.toNat he
        have h3 := sub255 (((bl l.p).take (q + 1))[q])
        rw [he] at h3
        have h4 : ((10 : UInt8).toNat : Int) = 10 := rfl
        omega
  rw [hx]
  generalize turnL ((bl l.p).take m) torn = t at hsp
  have hb : bl (l.d ++ mk t) = bl l.d ++ t := by rw [bl_app]
  have hd : endOf (opensF (bl l.d)) = (bl l.d).length := by rw [bl_len]; exact LogR.end_d ho
  have ht := hsp.1
  rw [bl_len] at ht
  have hmk : (mk t).size = t.length := mk_size t
  obtain ⟨r, hr⟩ := opens_spoilt (61 - (opensF (bl l.d)).length) _ _ (opensF (bl l.d)).length hsp
  have h1 := opensF_join (t := t) hd
  have h2 := opensF_join (t := bl l.p) hd
  refine ⟨ho, ?_, ?_, ?_, r, ?_⟩
  · rw [ByteArray.size_append] at hs ⊢; omega
  · rw [hb, h1, endOf_app, hd, bl_len]; omega
  · have := (opensF_end (bl (l.d ++ mk t))).1
    rwa [bl_len] at this
  · unfold LogR.recs
    rw [bl_app, h2, hr, hb, h1, List.append_assoc]
end Go.Proofs.YtecghfcgahgfiaaGreatDoor
/- Commands one after the other: plain laws. No program in sight. -/
namespace Go.Proofs.YtecghfcgahgfiaaGreatDoor
open Go.RowKit

theorem orNo_ok {d : DayC} (h : d.ok = true) (line : ByteArray) : (orNo d (runC d line)).1.ok = true := by
  have hs : ∀ k x, (orNo d (doStep d k x)).1.ok = true := by
    intro k x
    rcases stepAll_cases d k x with ⟨_, h2⟩ | ⟨d', _, h2, h3⟩
    · rw [h2]; exact h
    · rw [h3]; exact h2
  have hn : (orNo d none).1.ok = true := h
  unfold runC
  split
  · split
    · exact hn
    · split
      · cases doAsk d _ with
        | none => exact hn
        | some r => exact h
      · exact hs _ _
  · split
    · split
      · exact hs _ _
      · exact hn
    · exact hn
  · exact hn
theorem appF_ok {l : LogR} (h : l.ok = true) (e : RecR) : (appF l e).1.ok = true := by
  by_cases h0 : (appF l e).2 = 0
  · obtain ⟨_, h2, h3, h4⟩ := appF_good h0
    rw [h4]
    exact app_ok h h2 h3
  · rw [appF_back h0]
    exact h
/-- A command leaves a valid console valid. -/
theorem exeF_ok {d : DayC} {l : LogR} (h : conOk d l = true) (line : ByteArray) : conOk (exeF d l line).1 (exeF d l line).2.1 = true := by
  cases hr : recOk line ⟨#[]⟩
  · rw [exeF_bad h hr]
    exact h
  by_cases hn : l.n = 60
  · rw [exeF_full h hr hn]
    exact h
  · rw [exeF_main h hr hn]
    have h' := h
    simp only [conOk, Bool.and_eq_true] at h'
    simp only [conOk, Bool.and_eq_true]
    exact ⟨orNo_ok h'.1 line, appF_ok h'.2 _⟩
theorem conOk_small {d : DayC} {l : LogR} (h : conOk d l = true) : d.lines.length ≤ 8 ∧ l.d.size ≤ 22320 ∧ l.p.size ≤ 22320 := by
  simp only [conOk, Bool.and_eq_true] at h
  have hb := DayC.bounds h.1
  have hs := LogR.small h.2
  rw [ByteArray.size_append] at hs
  omega
/-- The console after k commands. -/
def stTo (d : DayC) (l : LogR) (xs : List ByteArray) : Nat → DayC × LogR
  | 0 => (d, l)
  | k + 1 => if h : k < xs.length then ((exeF (stTo d l xs k).1 (stTo d l xs k).2 xs[k]).1, (exeF (stTo d l xs k).1 (stTo d l xs k).2 xs[k]).2.1) else stTo d l xs k
/-- The reply of command k. -/
def repAt (d : DayC) (l : LogR) (xs : List ByteArray) (k : Nat) : ByteArray := if h : k < xs.length then (exeF (stTo d l xs k).1 (stTo d l xs k).2 xs[k]).2.2 else ⟨#[]⟩
def repTo (d : DayC) (l : LogR) (xs : List ByteArray) (k : Nat) : List ByteArray := (List.range k).map (repAt d l xs)
theorem repTo_succ (d : DayC) (l : LogR) (xs : List ByteArray) (k : Nat) : repTo d l xs (k + 1) = repTo d l xs k ++ [repAt d l xs k] := by
  simp [repTo, List.range_succ]
theorem repTo_len (d : DayC) (l : LogR) (xs : List ByteArray) (k : Nat) : (repTo d l xs k).length = k := by simp [repTo]
theorem stTo_ok {d : DayC} {l : LogR} (h : conOk d l = true) (xs : List ByteArray) : ∀ k, conOk (stTo d l xs k).1 (stTo d l xs k).2 = true := by
  intro k
  induction k with
  | zero => exact h
  | succ k ih =>
    unfold stTo
    split
    · exact exeF_ok ih _
    · exact ih
theorem lrF_ok (l : LogR) : ∀ e ∈ lrF l, e.ok = true := by
  cases h : l.ok
  · simp [lrF, h]
  · intro e he
    rw [lrF_recs h] at he
    obtain ⟨x, hx, rfl⟩ := List.mem_map.1 he
    exact (opens_mem 61 _ 0 x hx).1
theorem rec_sizes {e : RecR} (h : e.ok = true) : e.c.size ≤ 160 ∧ e.r.size ≤ 200 := by
  simp only [RecR.ok, recOk, inB, Bool.and_eq_true, decide_eq_true_eq] at h
  omega
/-- The first record whose reply is another one, or the number of the records. -/
def stopAt (d : DayC) (l : LogR) (rs : List RecR) : Nat → Nat → Nat
  | 0, k => k
  | n + 1, k => if h : k < rs.length then (if (repAt d l (rs.map (·.c)) k).toList = rs[k].r.toList then stopAt d l rs n (k + 1) else k) else k
theorem stop_eq {d : DayC} {l : LogR} {rs : List RecR} {k : Nat} (h : k < rs.length) (he : (repAt d l (rs.map (·.c)) k).toList = rs[k].r.toList) : stopAt d l rs (rs.length - k) k = stopAt d l rs (rs.length - (k + 1)) (k + 1) := by
  rw [show rs.length - k = (rs.length - (k + 1)) + 1 by omega, stopAt, dif_pos h, if_pos he]
theorem stop_ne {d : DayC} {l : LogR} {rs : List RecR} {k : Nat} (h : k < rs.length) (he : ¬ (repAt d l (rs.map (·.c)) k).toList = rs[k].r.toList) : stopAt d l rs (rs.length - k) k = k := by
  rw [show rs.length - k = (rs.length - (k + 1)) + 1 by omega, stopAt, dif_pos h, if_neg he]
/-- What ReplayLog tells. -/
def replF (ms : List Int) (fuel : Int) (l : LogR) : Int × Bool :=
  if (newC ms fuel).ok && l.ok then ((stopAt (newF ms fuel) zLog (lrF l) (lrF l).length 0 : Nat), true) else (0, false)
theorem new_conOk {ms : List Int} {fuel : Int} (h : (newC ms fuel).ok = true) : conOk (newF ms fuel) zLog = true := by
  have h2 : (newF ms fuel).ok = true := by unfold newF; rw [if_pos h]; exact h
  have h3 : zLog.ok = true := by decide +kernel
  simp [conOk, h2, h3]
theorem stTo_step {d : DayC} {l : LogR} {xs : List ByteArray} {k : Nat} (h : k < xs.length) : stTo d l xs (k + 1) = ((exeF (stTo d l xs k).1 (stTo d l xs k).2 xs[k]).1, (exeF (stTo d l xs k).1 (stTo d l xs k).2 xs[k]).2.1) := by
  rw [stTo, dif_pos h]
theorem repAt_eq {d : DayC} {l : LogR} {xs : List ByteArray} {k : Nat} (h : k < xs.length) : repAt d l xs k = (exeF (stTo d l xs k).1 (stTo d l xs k).2 xs[k]).2.2 := by
  rw [repAt, dif_pos h]
end Go.Proofs.YtecghfcgahgfiaaGreatDoor
/- ReplayLog, in both packages. -/
namespace Go.Proofs.YtecghfcgahgfiaaGreatDoor
open Go.RowKit

attribute [local go_sem ↓] Go.wp_at_zero Go.wp_at_succ
set_option maxHeartbeats 8000000 in
theorem i_ReplayLog (ms : List Int) (A : Option Addr) (c : Nat) (fuel : Int) (l : LogR) (w : World) (hA : Sl w 1 intRow A ms) (hl : ms.length ≤ 1048576) (h1 : l.d.size ≤ 2097152) (h2 : l.p.size ≤ 2097152) (hE : Env w) (hY : Syn w) :
    Calls Tryz.prog 21 #[.slice A ms.length c, .int .i64 fuel, l.val] w fun e w' => e = .returned (.tuple #[.int .i64 (replF ms fuel l).1, .bool (replF ms fuel l).2]) ∧ ∃ g, w' = plus w g := by
  have HA := hid hA
  have HE := hid hE
  have HY := hid hY
  clear hA hE hY
  cases hn : (newC ms fuel).ok
  · have HF : Hid (replF ms fuel l = (0, false)) := hid (by simp [replF, hn])
    have HN := hid hn
    clear hn
    go_enter Tryz.func21, Tryz.ntmps21
    go_wp2_with fail
    refine (i_NewConsole ms A c fuel _ (HA.out.grew (by (repeat (first | with_reducible exact grew_refl _ | with_reducible assumption | with_reducible refine grew_split ?_ | with_reducible refine grew_mk ?_ | with_reducible refine grew_plus ?_ | with_reducible refine grew_alloc ?_ | with_reducible refine grew_drew ?_ | (with_reducible refine grew_set ?_ (by first | exact Nat.le_refl _ | omega | (simp [go_sem]; done) | (simp [go_sem]; omega))))))) hl).mono ?_
    rw [HN.out]
    rintro e w' ⟨⟨A1, c1, rfl, -⟩, g1, rfl⟩
    go_wp2_with fail
    refine (i_LogRecords l _ h1 h2 (HE.out.grew (by (repeat (first | with_reducible exact grew_refl _ | with_reducible assumption | with_reducible refine grew_split ?_ | with_reducible refine grew_mk ?_ | with_reducible refine grew_plus ?_ | with_reducible refine grew_alloc ?_ | with_reducible refine grew_drew ?_ | (with_reducible refine grew_set ?_ (by first | exact Nat.le_refl _ | omega | (simp [go_sem]; done) | (simp [go_sem]; omega)))))))).mono ?_
    rintro e w' ⟨⟨A2, c2, rfl, -⟩, g2, rfl⟩
    go_wp2_with fail
    refine bodyPost_ret (v := .tuple #[.int .i64 0, .bool false]) (by simp [results, Tryz.results21, go_sem, *]) rfl ?_
    exact ⟨by rw [HF.out], by (repeat (first | with_reducible exact grew_refl _ | with_reducible assumption | with_reducible refine grew_split ?_ | with_reducible refine grew_mk ?_ | with_reducible refine grew_plus ?_ | with_reducible refine grew_alloc ?_ | with_reducible refine grew_drew ?_ | (with_reducible refine grew_set ?_ (by first | exact Nat.le_refl _ | omega | (simp [go_sem]; done) | (simp [go_sem]; omega)))))⟩
  cases ho : l.ok
  · have HF : Hid (replF ms fuel l = (0, false)) := hid (by simp [replF, ho])
    have HN := hid hn
    have HO := hid ho
    clear hn ho
    go_enter Tryz.func21, Tryz.ntmps21
    go_wp2_with fail
    refine (i_NewConsole ms A c fuel _ (HA.out.grew (by (repeat (first | with_reducible exact grew_refl _ | with_reducible assumption | with_reducible refine grew_split ?_ | with_reducible refine grew_mk ?_ | with_reducible refine grew_plus ?_ | with_reducible refine grew_alloc ?_ | with_reducible refine grew_drew ?_ | (with_reducible refine grew_set ?_ (by first | exact Nat.le_refl _ | omega | (simp [go_sem]; done) | (simp [go_sem]; omega))))))) hl).mono ?_
    rw [HN.out]
    rintro e w' ⟨⟨A1, c1, rfl, -⟩, g1, rfl⟩
    go_wp2_with fail
    refine (i_LogRecords l _ h1 h2 (HE.out.grew (by (repeat (first | with_reducible exact grew_refl _ | with_reducible assumption | with_reducible refine grew_split ?_ | with_reducible refine grew_mk ?_ | with_reducible refine grew_plus ?_ | with_reducible refine grew_alloc ?_ | with_reducible refine grew_drew ?_ | (with_reducible refine grew_set ?_ (by first | exact Nat.le_refl _ | omega | (simp [go_sem]; done) | (simp [go_sem]; omega)))))))).mono ?_
    rw [HO.out]
    rintro e w' ⟨⟨A2, c2, rfl, -⟩, g2, rfl⟩
    go_wp2_with fail
    refine bodyPost_ret (v := .tuple #[.int .i64 0, .bool false]) (by simp [results, Tryz.results21, go_sem, *]) rfl ?_
    exact ⟨by rw [HF.out], by (repeat (first | with_reducible exact grew_refl _ | with_reducible assumption | with_reducible refine grew_split ?_ | with_reducible refine grew_mk ?_ | with_reducible refine grew_plus ?_ | with_reducible refine grew_alloc ?_ | with_reducible refine grew_drew ?_ | (with_reducible refine grew_set ?_ (by first | exact Nat.le_refl _ | omega | (simp [go_sem]; done) | (simp [go_sem]; omega)))))⟩
  obtain ⟨R, hR⟩ : ∃ R, lrF l = R := ⟨_, rfl⟩
  obtain ⟨N, hNN⟩ : ∃ N, newF ms fuel = N := ⟨_, rfl⟩
  obtain ⟨T, hT⟩ : ∃ T, stopAt N zLog R R.length 0 = T := ⟨_, rfl⟩
  have HF : Hid (replF ms fuel l = ((T : Int), true)) := hid (by simp [replF, hn, ho, hR, hNN, hT])
  have hok := new_conOk hn
  rw [hNN] at hok
  have hrok := lrF_ok l
  rw [hR] at hrok
  have HK := hid hok
  have HRK := hid hrok
  have HN := hid hn
  have HO := hid ho
  have HR := hid hR
  have HNN := hid hNN
  have HT := hid hT
  clear hn ho hR hNN hT hok hrok
  go_enter Tryz.func21, Tryz.ntmps21
  go_wp2_with fail
  refine (i_NewConsole ms A c fuel _ (HA.out.grew (by (repeat (first | with_reducible exact grew_refl _ | with_reducible assumption | with_reducible refine grew_split ?_ | with_reducible refine grew_mk ?_ | with_reducible refine grew_plus ?_ | with_reducible refine grew_alloc ?_ | with_reducible refine grew_drew ?_ | (with_reducible refine grew_set ?_ (by first | exact Nat.le_refl _ | omega | (simp [go_sem]; done) | (simp [go_sem]; omega))))))) hl).mono ?_
  rw [HN.out, HNN.out]
  rintro e w' ⟨⟨A1, c1, rfl, hO1⟩, g1, rfl⟩
  have HO1 := hid hO1
  clear hO1
  go_wp2_with fail
  refine (i_LogRecords l _ h1 h2 (HE.out.grew (by (repeat (first | with_reducible exact grew_refl _ | with_reducible assumption | with_reducible refine grew_split ?_ | with_reducible refine grew_mk ?_ | with_reducible refine grew_plus ?_ | with_reducible refine grew_alloc ?_ | with_reducible refine grew_drew ?_ | (with_reducible refine grew_set ?_ (by first | exact Nat.le_refl _ | omega | (simp [go_sem]; done) | (simp [go_sem]; omega)))))))).mono ?_
  rw [HO.out, HR.out]
  rintro e w' ⟨⟨A2, c2, rfl, hO2⟩, g2, rfl⟩
  have HO2 := hid hO2
  clear hO2
  go_upto_region 5 with fail
  generalize hb8 : w.heap.size + 1 + g1.objs.size = b8
  refine opq_wp (fun wr => Blk wr b8 30 #[.int .i64 (N).minute, .int .i64 (N).state, .slice A1 (N).lines.length c1, .int .i64 (N).line, .int .i64 (N).since, .int .i64 (N).cast, .int .i64 (N).fuel, .string (zLog).d, .string (zLog).p, .int .i64 (zLog).n] ∧ OwnF w.heap.size 80 2 LineR.row wr A1 N.lines ∧ OwnF w.heap.size 40 2 RecR.row wr A2 R ∧ ∃ g, wr = plus w g) ⟨Blk.plus (blk_new (by subst hb8; simp [go_sem])) _, OwnF.less (OwnF.grew HO1.out (by (repeat (first | with_reducible exact grew_refl _ | with_reducible assumption | with_reducible refine grew_split ?_ | with_reducible refine grew_mk ?_ | with_reducible refine grew_plus ?_ | with_reducible refine grew_alloc ?_ | with_reducible refine grew_drew ?_ | (with_reducible refine grew_set ?_ (by first | exact Nat.le_refl _ | omega | (simp [go_sem]; done) | (simp [go_sem]; omega))))))) (by simp [go_sem]), OwnF.less (OwnF.grew HO2.out (by (repeat (first | with_reducible exact grew_refl _ | with_reducible assumption | with_reducible refine grew_split ?_ | with_reducible refine grew_mk ?_ | with_reducible refine grew_plus ?_ | with_reducible refine grew_alloc ?_ | with_reducible refine grew_drew ?_ | (with_reducible refine grew_set ?_ (by first | exact Nat.le_refl _ | omega | (simp [go_sem]; done) | (simp [go_sem]; omega))))))) (by first | (simp [go_sem]; done) | (simp [go_sem]; omega)), by (repeat (first | with_reducible exact grew_refl _ | with_reducible assumption | with_reducible refine grew_split ?_ | with_reducible refine grew_mk ?_ | with_reducible refine grew_plus ?_ | with_reducible refine grew_alloc ?_ | with_reducible refine grew_drew ?_ | (with_reducible refine grew_set ?_ (by first | exact Nat.le_refl _ | omega | (simp [go_sem]; done) | (simp [go_sem]; omega)))))⟩ ?_
  have hb8w : w.heap.size ≤ b8 := by omega
  clear hb8 HO1 HO2
  rintro W1 ⟨hB, hO1, hO2, hg1⟩
  have HB1 := hid hB
  have HO1 := hid hO1
  have HO2 := hid hO2
  have HG1 := hid hg1
  clear hB hO1 hO2 hg1
  have hRl : R.length ≤ 60 := by rw [← HR.out]; exact lrF_len l
  obtain ⟨cs, hcs⟩ : ∃ cs, R.map (·.c) = cs := ⟨_, rfl⟩
  have hcl : cs.length ≤ R.length := by rw [← hcs]; simp
  have hcl' : R.length ≤ cs.length := by rw [← hcs]; simp
  have HCS := hid hcs
  clear hcs
  go_wp2_with fail
  go_loopw [35] (fun i wr => ∃ (k : Nat) (A' : Option Addr) (c' : Nat), k ≤ R.length ∧ i = .int .i64 k ∧ stopAt N zLog R (R.length - k) k = T ∧ Blk wr b8 30 #[.int .i64 ((stTo N zLog cs k).1).minute, .int .i64 ((stTo N zLog cs k).1).state, .slice A' ((stTo N zLog cs k).1).lines.length c', .int .i64 ((stTo N zLog cs k).1).line, .int .i64 ((stTo N zLog cs k).1).since, .int .i64 ((stTo N zLog cs k).1).cast, .int .i64 ((stTo N zLog cs k).1).fuel, .string ((stTo N zLog cs k).2).d, .string ((stTo N zLog cs k).2).p, .int .i64 ((stTo N zLog cs k).2).n] ∧ OwnF w.heap.size 80 2 LineR.row wr A' (stTo N zLog cs k).1.lines ∧ OwnF w.heap.size 40 2 RecR.row wr A2 R ∧ ∃ g, wr = plus w g) (fun i _ => R.length - (intOf i).toNat)
  case atStart => exact ⟨0, A1, c1, Nat.zero_le _, rfl, HT.out, HB1.out, HO1.out, HO2.out, HG1.out⟩
  case round =>
    obtain ⟨k, A', c', hk, rfl, ht, hB, hO, hL, hg⟩ := hrel
    obtain ⟨D, L, hst⟩ : ∃ D L, stTo N zLog cs k = (D, L) := ⟨_, _, rfl⟩
    have hok := stTo_ok HK.out cs k
    rw [hst] at hB hO hok
    obtain ⟨q1, q2, q3⟩ := conOk_small hok
    simp only at hB hO
    have HST := hid hst
    have HTT := hid ht
    have HB := hid hB
    have HO := hid hO
    have HL := hid hL
    have HG := hid hg
    clear hst ht hok HB1 HO1 HO2 HG1
    by_cases hlt : k < R.length
    · obtain ⟨b, off, rfl, hb, hx⟩ := hL.sl.at_ hlt
      obtain ⟨y0, y1⟩ := rcells hx hlt
      obtain ⟨x, hxx⟩ : ∃ x, R[k] = x := ⟨_, rfl⟩
      rw [hxx] at y0 y1
      have hxs := rec_sizes (HRK.out R[k] (List.getElem_mem hlt))
      rw [hxx] at hxs
      have hcx : cs[k]'(by omega) = x.c := by rw [← hxx]; simp [← HCS.out]
      obtain ⟨D', L', r, hp⟩ : ∃ D' L' r, exeF D L x.c = (D', L', r) := ⟨_, _, _, rfl⟩
      have HX := hid hxx
      have HP := hid hp
      have HCX := hid hcx
      have hbl := hB.lt
      (have hd0 := hB.cell 0; have hd1 := hB.cell 1; have hd2 := hB.cell 2; have hd3 := hB.cell 3; have hd4 := hB.cell 4; have hd5 := hB.cell 5; have hd6 := hB.cell 6; have hd7 := hB.cell 7; have hd8 := hB.cell 8; have hd9 := hB.cell 9; simp [go_sem] at hd0 hd1 hd2 hd3 hd4 hd5 hd6 hd7 hd8 hd9)
      (have fd0 := hB.frozen 0; have fd1 := hB.frozen 1; have fd2 := hB.frozen 2; have fd3 := hB.frozen 3; have fd4 := hB.frozen 4; have fd5 := hB.frozen 5; have fd6 := hB.frozen 6; have fd7 := hB.frozen 7; have fd8 := hB.frozen 8; have fd9 := hB.frozen 9)
      have hk0 : (0 : Int) ≤ (k : Int) := by omega
      have hk1 : (k : Int) < (R.length : Int) := by omega
      have hgw := (below_of_grew hg).size
      clear hB hO hL hg hx hxx hp hcx
      go_wp2_with fail
      refine (i_ExecuteCommand ⟨D, A', c'⟩ L x.c _ (HO.out.sl.grew (by (repeat (first | with_reducible exact grew_refl _ | with_reducible assumption | with_reducible refine grew_split ?_ | with_reducible refine grew_mk ?_ | with_reducible refine grew_plus ?_ | with_reducible refine grew_alloc ?_ | with_reducible refine grew_drew ?_ | (with_reducible refine grew_set ?_ (by first | exact Nat.le_refl _ | omega | (simp [go_sem]; done) | (simp [go_sem]; omega))))))) (by simp only; omega) (by omega) (by omega) (by omega) (HE.out.grew (grew_two' HG.out (by (repeat (first | with_reducible exact grew_refl _ | with_reducible assumption | with_reducible refine grew_split ?_ | with_reducible refine grew_mk ?_ | with_reducible refine grew_plus ?_ | with_reducible refine grew_alloc ?_ | with_reducible refine grew_drew ?_ | (with_reducible refine grew_set ?_ (by first | exact Nat.le_refl _ | omega | (simp [go_sem]; done) | (simp [go_sem]; omega)))))))) (HY.out.grew (grew_two' HG.out (by (repeat (first | with_reducible exact grew_refl _ | with_reducible assumption | with_reducible refine grew_split ?_ | with_reducible refine grew_mk ?_ | with_reducible refine grew_plus ?_ | with_reducible refine grew_alloc ?_ | with_reducible refine grew_drew ?_ | (with_reducible refine grew_set ?_ (by first | exact Nat.le_refl _ | omega | (simp [go_sem]; done) | (simp [go_sem]; omega))))))))).mono ?_
      rw [HP.out]
      rintro e w' ⟨⟨A3, c3, rfl, hO3⟩, g3, rfl⟩
      have HO3 := hid hO3
      clear hO3
      have HR1 : Hid (repAt N zLog cs k = r) := hid (by rw [repAt_eq (by omega), HST.out, HCX.out, HP.out])
      by_cases he : r.toList = x.r.toList
      · have e1 : (r.toList == x.r.toList) = true := by simp [he]
        have HT2 : Hid (stopAt N zLog R (R.length - (k + 1)) (k + 1) = T) := hid (by
          rw [← stop_eq hlt (by rw [HCS.out, HR1.out, HX.out]; exact he)]
          exact HTT.out)
        have HST2 : Hid (stTo N zLog cs (k + 1) = (D', L')) := hid (by rw [stTo_step (by omega), HST.out, HCX.out, HP.out])
        clear he
        go_wp2_with fail
        go_roundw
        case rel =>
          refine ⟨k + 1, A3, c3, by omega, by go_num, HT2.out, ?_⟩
          rw [HST2.out]
          have hg := HG.out
          refine ⟨?_, ?_, ?_, by (repeat (first | with_reducible exact grew_refl _ | with_reducible assumption | with_reducible refine grew_split ?_ | with_reducible refine grew_mk ?_ | with_reducible refine grew_plus ?_ | with_reducible refine grew_alloc ?_ | with_reducible refine grew_drew ?_ | (with_reducible refine grew_set ?_ (by first | exact Nat.le_refl _ | omega | (simp [go_sem]; done) | (simp [go_sem]; omega)))))⟩
          · have h := ((((((((((HB.out.set_ 0 (.int .i64 D'.minute)).set_ 1 (.int .i64 D'.state)).set_ 2 (.slice A3 D'.lines.length c3)).set_ 3 (.int .i64 D'.line)).set_ 4 (.int .i64 D'.since)).set_ 5 (.int .i64 D'.cast)).set_ 6 (.int .i64 D'.fuel)).set_ 7 (.string L'.d)).set_ 8 (.string L'.p)).set_ 9 (.int .i64 L'.n))
            simp only [List.setIfInBounds_toArray, List.set_cons_zero, List.set_cons_succ] at h
            exact Blk.alloc (Blk.plus (Blk.alloc h _) _) _
          · exact (OwnF.grew (OwnF.base HO3.out (by first | exact Nat.le_refl _ | (simp [go_sem]; done) | (simp [go_sem]; omega)) (by simp [go_sem])) (grew_alloc (grew_refl _))).less (by first | (simp [go_sem]; done) | (simp [go_sem]; omega))
          · refine OwnF.grew ?_ (grew_alloc (grew_plus (grew_alloc (grew_refl _))))
            exact OwnF.apart HL.out HB.out (by decide) (by (repeat (first | with_reducible exact grown_refl _ _ | with_reducible assumption | with_reducible refine gb_plus ?_ | with_reducible refine gb_alloc ?_ | with_reducible refine gb_drew ?_ | with_reducible refine grown_set ?_)))
        case measure => simp [intOf]; omega
      · have e1 : (r.toList == x.r.toList) = false := by simp [he]
        have HTK : Hid (T = k) := hid (by
          rw [← HTT.out]
          exact stop_ne hlt (by rw [HCS.out, HR1.out, HX.out]; exact he))
        clear he
        go_wp2_with fail
        refine bodyPost_ret (v := .tuple #[.int .i64 k, .bool true]) (by simp [results, Tryz.results21, go_sem, *]) rfl ?_
        have hg := HG.out
        exact ⟨by rw [HF.out, HTK.out], by (repeat (first | with_reducible exact grew_refl _ | with_reducible assumption | with_reducible refine grew_split ?_ | with_reducible refine grew_mk ?_ | with_reducible refine grew_plus ?_ | with_reducible refine grew_alloc ?_ | with_reducible refine grew_drew ?_ | (with_reducible refine grew_set ?_ (by first | exact Nat.le_refl _ | omega | (simp [go_sem]; done) | (simp [go_sem]; omega)))))⟩
    · obtain rfl : k = R.length := by omega
      have HTK : Hid (T = R.length) := hid (by have h := HTT.out; rw [Nat.sub_self] at h; exact h.symm)
      go_wp2_with fail
      refine bodyPost_ret (v := .tuple #[.int .i64 R.length, .bool true]) (by simp [results, Tryz.results21, go_sem, *]) rfl ?_
      have hg := HG.out
      exact ⟨by rw [HF.out, HTK.out], by (repeat (first | with_reducible exact grew_refl _ | with_reducible assumption | with_reducible refine grew_split ?_ | with_reducible refine grew_mk ?_ | with_reducible refine grew_plus ?_ | with_reducible refine grew_alloc ?_ | with_reducible refine grew_drew ?_ | (with_reducible refine grew_set ?_ (by first | exact Nat.le_refl _ | omega | (simp [go_sem]; done) | (simp [go_sem]; omega)))))⟩
end Go.Proofs.YtecghfcgahgfiaaGreatDoor
