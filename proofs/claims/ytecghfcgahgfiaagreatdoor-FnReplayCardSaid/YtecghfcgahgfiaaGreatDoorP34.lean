import Derived.Test.YtecghfcgahgfiaaGreatDoorP30
import Derived.Test.YtecghfcgahgfiaaGreatDoorP32
import Derived.Test.YtecghfcgahgfiaaGreatDoorP29
import Derived.Test.YtecghfcgahgfiaaGreatDoorP11
import Derived.Test.YtecghfcgahgfiaaGreatDoorP8
import Derived.Test.YtecghfcgahgfiaaGreatDoorP5
import Derived.Test.YtecghfcgahgfiaaGreatDoorP12
/- Replies are plain texts, so a command that is carried out is recorded. No program in sight. -/
namespace Go.Proofs.YtecghfcgahgfiaaGreatDoor
open Go.RowKit

theorem plain_app (a b : ByteArray) : plainB (a ++ b) = (plainB a && plainB b) := by
  simp [plainB, List.all_append]
theorem plain_of {s : ByteArray} (h : ∀ c ∈ bl s, 32 ≤ c.toNat ∧ c.toNat ≤ 126 ∧ c.toNat ≠ 35) : plainB s = true := by
  refine List.all_eq_true.2 fun c hc => ?_
  have := h c hc
  simp only [plainC]
  grind
theorem num_plain (n : Int) : plainB (num n) = true := by
  have hp : ∀ m : Int, 0 ≤ m → plainB (num m) = true := fun m hm => plain_of fun c hc => by
    have := num_bytes m hm c (by simpa [num, bl] using hc)
    omega
  by_cases h : 0 ≤ n
  · exact hp n h
  · rw [← num_neg (by omega), plain_app, hp _ (by omega)]
    decide
theorem stateT_plain (d : DayC) : plainB (stateT d) = true := by
  unfold stateT
  split
  · decide
  · split
    · decide
    · rw [plain_app, num_plain]; decide
theorem textC_plain (d : DayC) : plainB (textC d) = true := by
  simp only [textC, plain_app, num_plain, stateT_plain, Bool.and_true, Bool.true_and]
  decide
theorem listG_plain (l : List Int) : plainB (listG l) = true := by
  cases l with
  | nil => decide
  | cons x r =>
    have key : ∀ (r : List Int) (s : ByteArray), plainB s = true → plainB (r.foldl (fun s y => s ++ bs [32] ++ num y) s) = true := by
      intro r
      induction r with
      | nil => intro s h; exact h
      | cons y q ih =>
        intro s h
        refine ih _ ?_
        rw [plain_app, plain_app, h, num_plain]
        decide
    exact key r _ (num_plain x)
theorem doAsk_plain {d : DayC} {s r : ByteArray} (h : doAsk d s = some r) : plainB r = true := by
  unfold doAsk at h
  repeat' split at h
  all_goals first | (injection h with h; subst h; first | exact textC_plain _ | exact listG_plain _ | exact num_plain _ | decide) | (cases h)
theorem doStep_plain {d : DayC} {k x : Int} {p : DayC × ByteArray} (h : doStep d k x = some p) : plainB p.2 = true := by
  unfold doStep at h
  split at h
  · injection h with h; subst h; exact textC_plain _
  · cases h
theorem runC_plain {d : DayC} {line : ByteArray} {p : DayC × ByteArray} (h : runC d line = some p) : plainB p.2 = true := by
  unfold runC at h
  split at h
  · split at h
    · cases h
    · split at h
      · cases ha : doAsk d _ with
        | none => rw [ha] at h; cases h
        | some r => rw [ha] at h; injection h with h; subst h; exact doAsk_plain ha
      · exact doStep_plain h
  · split at h
    · split at h
      · exact doStep_plain h
      · cases h
    · cases h
  · cases h
theorem reply_plain (d : DayC) (line : ByteArray) : plainB (cutR (orNo d (runC d line)).2) = true := by
  have h : plainB (orNo d (runC d line)).2 = true := by
    cases hr : runC d line with
    | none => show plainB (bs [63]) = true; decide
    | some p => exact runC_plain hr
  unfold cutR
  split
  · decide
  · exact h
/-- A command that is carried out is recorded with its reply. -/
theorem exe_app {d : DayC} {l : LogR} {line : ByteArray} (h : conOk d l = true) (hr : recOk line ⟨#[]⟩ = true) (hn : l.n ≠ 60) :
    (appF l ⟨line, cutR (orNo d (runC d line)).2⟩).2 = 0 := by
  have ho : l.ok = true := by simp only [conOk, Bool.and_eq_true] at h; exact h.2
  have hz := cutR_size (orNo d (runC d line)).2
  have he : RecR.ok ⟨line, cutR (orNo d (runC d line)).2⟩ = true := by
    simp only [RecR.ok, recOk, Bool.and_eq_true, decide_eq_true_eq] at hr ⊢
    exact ⟨⟨hr.1.1, reply_plain d line⟩, by omega⟩
  have hc := LogR.count ho
  unfold appF
  rw [if_pos (by simp [ho, he]), if_neg (by simpa using hn)]
end Go.Proofs.YtecghfcgahgfiaaGreatDoor
/- The log of a console replays without a difference, and so does every first part of it. No program in sight. -/
namespace Go.Proofs.YtecghfcgahgfiaaGreatDoor
open Go.RowKit

theorem stTo_take {d : DayC} {l : LogR} {xs ys : List ByteArray} : ∀ {k : Nat}, k ≤ xs.length → stTo d l (xs ++ ys) k = stTo d l xs k := by
  intro k
  induction k with
  | zero => intro _; rfl
  | succ k ih =>
    intro h
    rw [stTo_step (by simp; omega), stTo_step (by omega), ih (by omega), List.getElem_append_left (by omega)]
theorem repAt_take {d : DayC} {l : LogR} {xs ys : List ByteArray} {k : Nat} (h : k < xs.length) : repAt d l (xs ++ ys) k = repAt d l xs k := by
  rw [repAt_eq (by simp; omega), repAt_eq h, stTo_take (by omega), List.getElem_append_left h]
/-- The records tell what happened from (N, l0) on, up to p. -/
def Told (N : DayC) (l0 : LogR) (rs : List RecR) (p : DayC × LogR) : Prop :=
  stTo N l0 (rs.map (·.c)) rs.length = p ∧ ∀ k (h : k < rs.length), repAt N l0 (rs.map (·.c)) k = rs[k].r
theorem Told.nil (N : DayC) (l0 : LogR) : Told N l0 [] (N, l0) := ⟨rfl, fun k h => by simp at h⟩
theorem Told.pre {N : DayC} {l0 : LogR} {rs qs : List RecR} {p : DayC × LogR} (h : Told N l0 (rs ++ qs) p) : ∃ p', Told N l0 rs p' := by
  refine ⟨_, rfl, fun k hk => ?_⟩
  have h2 := h.2 k (by simp; omega)
  rw [List.map_append, repAt_take (by simpa using hk), List.getElem_append_left hk] at h2
  exact h2
theorem Told.snoc {N : DayC} {l0 : LogR} {rs : List RecR} {p : DayC × LogR} (h : Told N l0 rs p) (e : RecR) (he : e.r = (exeF p.1 p.2 e.c).2.2) :
    Told N l0 (rs ++ [e]) ((exeF p.1 p.2 e.c).1, (exeF p.1 p.2 e.c).2.1) := by
  obtain ⟨h1, h2⟩ := h
  have hl : (rs.map (·.c)).length = rs.length := by simp
  have h3 : stTo N l0 ((rs ++ [e]).map (·.c)) rs.length = p := by
    rw [List.map_append, stTo_take (by omega), h1]
  have hx : ((rs ++ [e]).map (·.c))[rs.length]'(by simp) = e.c := by simp
  constructor
  · rw [List.length_append, List.length_singleton, stTo_step (by simp), h3, hx]
  · intro k hk
    by_cases hlt : k < rs.length
    · rw [List.map_append, repAt_take (by omega), h2 k hlt, List.getElem_append_left hlt]
    · have hk' : k = rs.length := by simp at hk; omega
      subst hk'
      rw [repAt_eq (by simp), h3, hx]
      simp [he]
theorem Told.stop {N : DayC} {l0 : LogR} {rs : List RecR} {p : DayC × LogR} (h : Told N l0 rs p) : stopAt N l0 rs rs.length 0 = rs.length := by
  have key : ∀ n k, n + k = rs.length → stopAt N l0 rs n k = rs.length := by
    intro n
    induction n with
    | zero => intro k hk; rw [stopAt]; omega
    | succ n ih =>
      intro k hk
      have hlt : k < rs.length := by omega
      rw [stopAt, dif_pos hlt, if_pos (by rw [h.2 k hlt])]
      exact ih _ (by omega)
  exact key _ 0 (by omega)
/-- A command keeps a console's log true. -/
theorem exe_told {N d : DayC} {l : LogR} (h : conOk d l = true) (ht : Told N zLog (lrF l) (d, l)) (line : ByteArray) :
    Told N zLog (lrF (exeF d l line).2.1) ((exeF d l line).1, (exeF d l line).2.1) := by
  cases hr : recOk line ⟨#[]⟩
  · rw [exeF_bad h hr]
    exact ht
  by_cases hn : l.n = 60
  · rw [exeF_full h hr hn]
    exact ht
  · have ha := exe_app h hr hn
    have hl := log_law ha
    have hs := ht.snoc ⟨line, cutR (orNo d (runC d line)).2⟩ (by rw [exeF_main h hr hn])
    simp only at hs
    rw [exeF_main h hr hn] at hs ⊢
    simp only at hs ⊢
    rw [hl.2.1]
    exact hs
theorem zLog_recs : lrF zLog = [] := by decide +kernel
theorem sts_told {N : DayC} (h : conOk N zLog = true) (xs : List ByteArray) : ∀ k, Told N zLog (lrF (stTo N zLog xs k).2) (stTo N zLog xs k) := by
  intro k
  induction k with
  | zero => show Told N zLog (lrF zLog) (N, zLog); rw [zLog_recs]; exact Told.nil _ _
  | succ k ih =>
    by_cases hlt : k < xs.length
    · rw [stTo_step hlt]
      exact exe_told (stTo_ok h xs k) ih _
    · rw [stTo, dif_neg hlt]
      exact ih
end Go.Proofs.YtecghfcgahgfiaaGreatDoor
/- The laws on consoles, told of what their functions return. Plain laws; no program in sight. -/
namespace Go.Proofs.YtecghfcgahgfiaaGreatDoor
open Go.RowKit

theorem app_grows {l : LogR} {e : RecR} (h : (appF l e).2 = 0) : (appF l e).1.d = l.d ∧ ((appF l e).1.p.toList == l.p.toList) = false ∧ (appF l e).1.n = l.n + 1 := by
  obtain ⟨h1, h2, h3, h4⟩ := appF_good h
  rw [h4]
  refine ⟨rfl, ?_, rfl⟩
  have hz : 0 < (lineV l.n.toNat e).size := by
    have hb := lineV_bytes l.n.toNat e
    have hl := bl_len (lineV l.n.toNat e)
    rw [hb] at hl
    simp at hl
    omega
  have hne : ¬ (l.p ++ lineV l.n.toNat e).toList = l.p.toList := by
    intro e1
    have := congrArg List.length e1
    simp only [ByteArray.toList_eq, Array.length_toList] at this
    have h5 : (l.p ++ lineV l.n.toNat e).data.size = (l.p ++ lineV l.n.toNat e).size := rfl
    have h6 : l.p.data.size = l.p.size := rfl
    rw [h5, h6, ByteArray.size_append] at this
    omega
  simpa using hne
/-- What a command does to a console and its log. -/
theorem console_law {d d' : DayC} {l l' : LogR} {line r : ByteArray} (h : exeF d l line = (d', l', r)) :
    (d' = d ∧ l' = l ∧ (r = bs [110, 111] ∨ r = bs [98, 97, 100] ∨ r = bs [102, 117, 108, 108])) ∨
    (conOk d l = true ∧ conOk d' l' = true ∧ l'.ok = true ∧ lrF l' = lrF l ++ [⟨line, r⟩] ∧ ((lrF l).length : Int) = l.n ∧ l'.d = l.d ∧ (l'.p.toList == l.p.toList) = false ∧ l'.n = l.n + 1 ∧ r.size ≤ 200 ∧ line.size ≤ 200) := by
  cases hc : conOk d l
  · rw [exeF_no hc] at h
    injection h with h1 h2
    injection h2 with h2 h3
    subst h1 h2 h3
    exact .inl ⟨rfl, rfl, .inl rfl⟩
  cases hr : recOk line ⟨#[]⟩
  · rw [exeF_bad hc hr] at h
    injection h with h1 h2
    injection h2 with h2 h3
    subst h1 h2 h3
    exact .inl ⟨rfl, rfl, .inr (.inl rfl)⟩
  by_cases hn : l.n = 60
  · rw [exeF_full hc hr hn] at h
    injection h with h1 h2
    injection h2 with h2 h3
    subst h1 h2 h3
    exact .inl ⟨rfl, rfl, .inr (.inr rfl)⟩
  · have ha := exe_app hc hr hn
    have hl := log_law ha
    have hg := app_grows ha
    have hok := exeF_ok hc line
    have hls : line.size ≤ 200 := by
      have hq : RecR.ok ⟨line, ⟨#[]⟩⟩ = true := hr
      have := rec_sizes hq
      simp only at this
      omega
    rw [exeF_main hc hr hn] at h hok
    injection h with h1 h2
    injection h2 with h2 h3
    subst h1 h2 h3
    refine .inr ⟨rfl, hok, hl.1, hl.2.1, ?_, hg.1, hg.2.1, hg.2.2, cutR_size _, hls⟩
    have h4 := hl.2.2.1
    rw [hl.2.1, hg.2.2] at h4
    simp at h4
    omega
/-- A told log replays to its end. -/
theorem told_repl {ms : List Int} {fuel : Int} {l : LogR} {p : DayC × LogR} (h : (newC ms fuel).ok = true) (ho : l.ok = true) (ht : Told (newF ms fuel) zLog (lrF l) p) : replF ms fuel l = (((lrF l).length : Int), true) := by
  unfold replF
  rw [h, ho]
  simp only [Bool.and_self, if_true]
  rw [ht.stop]
theorem lrF_count {l : LogR} (ho : l.ok = true) : ((lrF l).length : Int) = l.n := by
  have := (l.ok_iff.1 ho).2.1
  rw [lrF_recs ho, List.length_map]
  omega
theorem recov_recs {s : ByteArray} (h : s.size ≤ 30000) : lrF (recovF s).1 = (opensF (bl s)).map (·.1) := by
  have hE := (opensF_end (bl s)).1
  rw [bl_len] at hE
  rw [lrF_recs (recov_ok h).1]
  unfold recovF
  rw [if_neg (by omega)]
  have hb : bl (s.extract 0 (endOf (opensF (bl s)))) = (bl s).take (endOf (opensF (bl s))) := by rw [bl_extract]; simp
  have hr : LogR.recs ⟨s.extract 0 (endOf (opensF (bl s))), ⟨#[]⟩, (opensF (bl s)).length⟩ = opensF (bl s) := by
    unfold LogR.recs
    simp only [bl_app]
    rw [hb]
    show opensF (_ ++ []) = _
    rw [List.append_nil, opensF_part]
  rw [hr]
/-- The log of a console replays without a difference, and so does what is recovered of a part of it. -/
theorem replay_law {ms : List Int} {fuel : Int} (h : (newC ms fuel).ok = true) (xs : List ByteArray) (k : Int) {L : LogR} (hL : L = (stTo (newF ms fuel) zLog xs xs.length).2) (hk : inB k 0 L.p.size = true) :
    conOk (stTo (newF ms fuel) zLog xs xs.length).1 L = true ∧ L.ok = true ∧ replF ms fuel L = (L.n, true) ∧ (crashF L k false).2 = true ∧ (crashF L k false).1.size ≤ 30000 ∧ (recovF (crashF L k false).1).1.ok = true ∧ (recovF (crashF L k false).1).2.2 = true ∧
    replF ms fuel (recovF (crashF L k false).1).1 = ((recovF (crashF L k false).1).1.n, true) := by
  have hN := new_conOk h
  have hc := stTo_ok hN xs xs.length
  have ht := sts_told hN xs xs.length
  rw [← hL] at hc ht
  have ho : L.ok = true := by simp only [conOk, Bool.and_eq_true] at hc; exact hc.2
  have hcr : (crashF L k false).2 = true := by unfold crashF; rw [if_pos (by simp [ho, hk])]
  obtain ⟨_, c2, _, _, r, hr⟩ := crash_law hcr
  have hro := recov_ok c2
  have hrec := recov_recs c2
  refine ⟨hc, ho, ?_, hcr, c2, hro.1, hro.2, ?_⟩
  · rw [told_repl h ho ht, lrF_count ho]
  · have hpre : lrF L = lrF (recovF (crashF L k false).1).1 ++ r.map (·.1) := by
      rw [lrF_recs ho, hr, List.map_append, hrec]
    rw [hpre] at ht
    obtain ⟨p', hp'⟩ := ht.pre
    rw [told_repl h hro.1 hp', lrF_count hro.1]
/-- The first piece of a text splits into itself. -/
theorem first_piece (s : ByteArray) (b : UInt8) : ∃ x r, splitV s b = x :: r ∧ splitV x b = [x] ∧ x.size ≤ s.size := by
  obtain ⟨r, hr, _⟩ := split_head s b
  have hx : bl (⟨(cutB b (bl s)).1.toArray⟩ : ByteArray) = (cutB b (bl s)).1 := rfl
  have hn := cutB_none b (cutB b (bl s)).1 (cutB_free b (bl s))
  obtain ⟨q, hq, hq2⟩ := split_head ⟨(cutB b (bl s)).1.toArray⟩ b
  rw [hx, hn] at hq hq2
  have hq3 : q = [] := hq2.2 rfl
  subst hq3
  refine ⟨_, r, hr, hq, ?_⟩
  have h1 := cutB_len b (bl s)
  have h2 := bl_len s
  have h3 := bl_len (⟨(cutB b (bl s)).1.toArray⟩ : ByteArray)
  rw [hx] at h3
  omega
/-- The first line of a script, run alone, gives the script's first reply. -/
theorem script_law {d : DayC} {l : LogR} {t x : ByteArray} {r R : List ByteArray} (h : scrF d l t = (R, true)) (hs : splitV t 10 = x :: r) (hx : splitV x 10 = [x]) (hz : x.size ≤ t.size) : ∃ r0 T, R = r0 :: T ∧ scrF d l x = ([r0], true) := by
  unfold scrF at h
  split at h
  · rename_i hg
    simp only [Bool.and_eq_true, decide_eq_true_eq] at hg
    injection h with h1 h2
    refine ⟨repAt d l (x :: r) 0, ((List.range r.length).map Nat.succ).map (repAt d l (x :: r)), ?_, ?_⟩
    · rw [← h1, hs]
      simp only [repTo, List.length_cons, List.range_succ_eq_map, List.map_cons]
    · have e : repAt d l [x] 0 = repAt d l (x :: r) 0 := by
        rw [repAt_eq (by simp), repAt_eq (by simp)]
        rfl
      have c : (conOk d l && decide (x.size ≤ 4000) && decide ([x].length ≤ 30)) = true := by
        rw [hg.1.1, decide_eq_true (by omega : x.size ≤ 4000)]
        rfl
      unfold scrF
      rw [hx, if_pos c]
      simp only [repTo, List.length_cons, List.length_nil, List.range_succ_eq_map, List.map_cons, e]
      rfl
  · injection h with h1 h2
    cases h2
end Go.Proofs.YtecghfcgahgfiaaGreatDoor
/- The laws' own comparisons: of days, of lists of numbers. -/
namespace Go.Proofs.YtecghfcgahgfiaaGreatDoor
open Go.RowKit

set_option maxHeartbeats 400000 in
theorem l_vBig (A : Option Addr) (c n : Nat) (w : World) : Calls Tryz.prog 6 #[.slice A n c] w fun e w' => e = .returned (.bool (decide ((65536 : Int) < (n : Int)))) ∧ w = w' := by
  go_enter Tryz.func6, Tryz.ntmps6
  go_wp2
  go_ret
  exact ⟨rfl, rfl⟩
set_option maxHeartbeats 1000000 in
theorem l_vDayLines (l : List LineR) (A B : Option Addr) (c d : Nat) (w : World) (hA : Sl w 2 LineR.row A l) (hB : Sl w 2 LineR.row B l) (hl : l.length ≤ maxLen) :
    Calls Tryz.prog 82 #[.slice A l.length c, .slice B l.length d] w fun e' w' => e' = .returned (.bool true) ∧ ∃ g, w' = plus w g := by
  unfold maxLen at hl
  go_enter Tryz.func82, Tryz.ntmps82
  go_wp2_with fail
  go_loopw [5] (fun i wr => ∃ k : Nat, k ≤ l.length ∧ i = .int .i64 k ∧ (∃ g, wr = plus w g)) (fun i _ => l.length - (intOf i).toNat)
  case atStart => exact ⟨0, Nat.zero_le _, rfl, _, plus_refl _⟩
  case round =>
    obtain ⟨k, hk, rfl, g, rfl⟩ := hrel
    by_cases hlt : k < l.length
    · obtain ⟨b, off, rfl, hb, hc⟩ := hA.at_ hlt
      obtain ⟨b', off', rfl, hb', hc'⟩ := hB.at_ hlt
      obtain ⟨hc0, hc1⟩ := lcells hc hlt
      obtain ⟨hd0, hd1⟩ := lcells hc' hlt
      have e1 : (l[k].minutes == l[k].minutes) = true := by simp
      have e2 : (l[k].done == l[k].done) = true := by simp
      clear hc hA hc' hB
      go_wp2_with fail
      (refine wp_region_calm (by kernel_rfl) (by kernel_rfl) ?_; (repeat' (first | go_big_quiet_step (fail) | (refine wpQuiet_step (fun K hK => ?_); go_simp; go_ite <;> go_simp <;> (first | (refine hK _ ?_; clear hK K) | (apply Exists.intro; refine ⟨fun _ => ?_, hK _ ?_⟩; (fail); clear hK K))))); all_goals (refine wpQuiet_nil ?_; intro _ hw'; obtain ⟨gq, hw''⟩ := hw'; subst hw''))
      go_wp2
      go_roundw
      case rel => exact ⟨k + 1, by omega, by go_num, by (repeat (first | with_reducible exact grew_refl _ | with_reducible assumption | with_reducible refine grew_split ?_ | with_reducible refine grew_mk ?_ | with_reducible refine grew_plus ?_ | with_reducible refine grew_alloc ?_ | with_reducible refine grew_drew ?_ | (with_reducible refine grew_set ?_ (by first | exact Nat.le_refl _ | omega | (simp [go_sem]; done) | (simp [go_sem]; omega)))))⟩
      case measure => simp [intOf]; omega
    · go_wp2
      go_ret
      exact ⟨rfl, by (repeat (first | with_reducible exact grew_refl _ | with_reducible assumption | with_reducible refine grew_split ?_ | with_reducible refine grew_mk ?_ | with_reducible refine grew_plus ?_ | with_reducible refine grew_alloc ?_ | with_reducible refine grew_drew ?_ | (with_reducible refine grew_set ?_ (by first | exact Nat.le_refl _ | omega | (simp [go_sem]; done) | (simp [go_sem]; omega)))))⟩
set_option maxHeartbeats 1000000 in
theorem l_vDay (v : DayC) (A B : Option Addr) (c d : Nat) (w : World) (hv : DayV.At w ⟨v, A, c⟩) (hu : DayV.At w ⟨v, B, d⟩) :
    Calls Tryz.prog 41 #[DayV.val ⟨v, A, c⟩, DayV.val ⟨v, B, d⟩] w fun e w' => e = .returned (.bool true) ∧ ∃ g, w' = plus w g := by
  obtain ⟨minute, state, lines, line, since, cast, fuel⟩ := v
  have hl := hv.len
  have HP := hid hv.ln
  have HQ := hid hu.ln
  simp only at hl HP HQ
  clear hv hu
  have e1 : (minute == minute) = true := by simp
  have e2 : (state == state) = true := by simp
  have e3 : (line == line) = true := by simp
  have e4 : (since == since) = true := by simp
  have e5 : (cast == cast) = true := by simp
  have e6 : (fuel == fuel) = true := by simp
  go_enter Tryz.func41, Tryz.ntmps41
  go_wp2_with (go_at_call 82; refine (l_vDayLines lines _ _ _ _ _ (HP.out.grew (by (repeat (first | with_reducible exact grew_refl _ | with_reducible assumption | with_reducible refine grew_split ?_ | with_reducible refine grew_mk ?_ | with_reducible refine grew_plus ?_ | with_reducible refine grew_alloc ?_ | with_reducible refine grew_drew ?_ | (with_reducible refine grew_set ?_ (by first | exact Nat.le_refl _ | omega | (simp [go_sem]; done) | (simp [go_sem]; omega))))))) (HQ.out.grew (by (repeat (first | with_reducible exact grew_refl _ | with_reducible assumption | with_reducible refine grew_split ?_ | with_reducible refine grew_mk ?_ | with_reducible refine grew_plus ?_ | with_reducible refine grew_alloc ?_ | with_reducible refine grew_drew ?_ | (with_reducible refine grew_set ?_ (by first | exact Nat.le_refl _ | omega | (simp [go_sem]; done) | (simp [go_sem]; omega))))))) hl).mono ?_; (rintro e w' ⟨rfl, gx, rfl⟩))
  go_ret
  exact ⟨rfl, by (repeat (first | with_reducible exact grew_refl _ | with_reducible assumption | with_reducible refine grew_split ?_ | with_reducible refine grew_mk ?_ | with_reducible refine grew_plus ?_ | with_reducible refine grew_alloc ?_ | with_reducible refine grew_drew ?_ | (with_reducible refine grew_set ?_ (by first | exact Nat.le_refl _ | omega | (simp [go_sem]; done) | (simp [go_sem]; omega)))))⟩
end Go.Proofs.YtecghfcgahgfiaaGreatDoor
/- The reference's SplitString at a line feed; the laws' comparison of consoles. -/
namespace Go.Proofs.YtecghfcgahgfiaaGreatDoor
open Go.RowKit

set_option maxHeartbeats 1000000 in
theorem s_SplitString (s : ByteArray) (w : World) (hs : s.size ≤ 1000) :
    Calls Tryz.prog 17 #[.string s, .string ⟨#[10]⟩] w fun e w' => (∃ A c, e = .returned (.tuple #[.slice A (splitV s 10).length c, .bool true]) ∧ OwnF w.heap.size 9 1 strRow w' A (splitV s 10)) ∧ ∃ g, w' = plus w g := by
  obtain ⟨ws, hws⟩ : ∃ ws, splitV s 10 = ws := ⟨_, rfl⟩
  have HW := hid hws
  rw [hws]
  clear hws
  go_enter Tryz.func17, Tryz.ntmps17
  go_wp2_with fail
  refine (s_l1Split s 10 10 rfl _ (by omega)).mono ?_
  rw [HW.out]
  rintro e w' ⟨⟨A, c, rfl, hO⟩, g, rfl⟩
  have HO := hid (hO.f (fun _ => rfl))
  clear hO
  go_wp2_with fail
  go_ret2
  exact ⟨⟨A, c, rfl, (OwnF.grew HO.out (by (repeat (first | with_reducible exact grew_refl _ | with_reducible assumption | with_reducible refine grew_split ?_ | with_reducible refine grew_mk ?_ | with_reducible refine grew_plus ?_ | with_reducible refine grew_alloc ?_ | with_reducible refine grew_drew ?_ | (with_reducible refine grew_set ?_ (by first | exact Nat.le_refl _ | omega | (simp [go_sem]; done) | (simp [go_sem]; omega))))))).less (by first | exact Nat.le_refl _ | (simp [go_sem]; done) | (simp [go_sem]; omega))⟩, by (repeat (first | with_reducible exact grew_refl _ | with_reducible assumption | with_reducible refine grew_split ?_ | with_reducible refine grew_mk ?_ | with_reducible refine grew_plus ?_ | with_reducible refine grew_alloc ?_ | with_reducible refine grew_drew ?_ | (with_reducible refine grew_set ?_ (by first | exact Nat.le_refl _ | omega | (simp [go_sem]; done) | (simp [go_sem]; omega)))))⟩
set_option maxHeartbeats 2000000 in
theorem l_vConsole (d : DayC) (l : LogR) (A B : Option Addr) (c c2 : Nat) (w : World) (hv : DayV.At w ⟨d, A, c⟩) (hu : DayV.At w ⟨d, B, c2⟩) :
    Calls Tryz.prog 10 #[ConV.val ⟨⟨d, A, c⟩, l⟩, ConV.val ⟨⟨d, B, c2⟩, l⟩] w fun e w' => e = .returned (.bool true) ∧ ∃ g, w' = plus w g := by
  have HP := hid hv
  have HQ := hid hu
  have e1 : (l.d.toList == l.d.toList) = true := by simp
  have e2 : (l.p.toList == l.p.toList) = true := by simp
  have e3 : (l.n == l.n) = true := by simp
  clear hv hu
  go_enter Tryz.func10, Tryz.ntmps10
  go_wp2_with (go_at_call 41; refine (l_vDay d A B c c2 _ (HP.out.grew (by (repeat (first | with_reducible exact grew_refl _ | with_reducible assumption | with_reducible refine grew_split ?_ | with_reducible refine grew_mk ?_ | with_reducible refine grew_plus ?_ | with_reducible refine grew_alloc ?_ | with_reducible refine grew_drew ?_ | (with_reducible refine grew_set ?_ (by first | exact Nat.le_refl _ | omega | (simp [go_sem]; done) | (simp [go_sem]; omega))))))) (HQ.out.grew (by (repeat (first | with_reducible exact grew_refl _ | with_reducible assumption | with_reducible refine grew_split ?_ | with_reducible refine grew_mk ?_ | with_reducible refine grew_plus ?_ | with_reducible refine grew_alloc ?_ | with_reducible refine grew_drew ?_ | (with_reducible refine grew_set ?_ (by first | exact Nat.le_refl _ | omega | (simp [go_sem]; done) | (simp [go_sem]; omega)))))))).mono ?_; (rintro e w' ⟨rfl, gx, rfl⟩))
  go_ret
  exact ⟨rfl, by (repeat (first | with_reducible exact grew_refl _ | with_reducible assumption | with_reducible refine grew_split ?_ | with_reducible refine grew_mk ?_ | with_reducible refine grew_plus ?_ | with_reducible refine grew_alloc ?_ | with_reducible refine grew_drew ?_ | (with_reducible refine grew_set ?_ (by first | exact Nat.le_refl _ | omega | (simp [go_sem]; done) | (simp [go_sem]; omega)))))⟩
end Go.Proofs.YtecghfcgahgfiaaGreatDoor
/- The reference's draws: a cursor over the bytes of a code. What each draw gives back lies in its range; the cursor's block alone is written. -/
namespace Go.Proofs.YtecghfcgahgfiaaGreatDoor
open Go.RowKit

def byteRow (x : Int) : List Value := [.int .u8 x]
/-- The cursor at block g, at bytes on in the code bs. -/
structure Cur (w0 w : World) (g : Nat) (A : Option Addr) (c : Nat) (bs : List Int) (at_ : Int) : Prop where
  grew : ∃ x, w = plus w0 x
  far : w0.heap.size ≤ g
  blk : ∃ seed, Blk w g 60 #[.slice A bs.length c, .int .i64 at_, .int .u64 seed]
  pos : 0 ≤ at_
theorem and255 (x : Int) : 0 ≤ bits .and .u64 x 255 ∧ bits .and .u64 x 255 ≤ 255 := by
  have h : ((BitVec.ofInt 64 x) &&& (BitVec.ofInt 64 255)).toNat ≤ 255 := by
    rw [BitVec.toNat_and]; exact Nat.le_trans Nat.and_le_right (by decide)
  have e : bits .and .u64 x 255 = IntKind.u64.wrap ((BitVec.ofInt 64 x) &&& (BitVec.ofInt 64 255)).toNat := rfl
  rw [e]
  generalize ((BitVec.ofInt 64 x) &&& (BitVec.ofInt 64 255)).toNat = n at h
  have e2 : IntKind.u64.wrap (n : Int) = (n : Int) % 18446744073709551616 := rfl
  rw [e2]
  omega
theorem wrap255 {x : Int} (h : 0 ≤ x ∧ x ≤ 255) : 0 ≤ wrap64 x ∧ wrap64 x ≤ 255 := by unfold wrap64; omega
set_option maxHeartbeats 2000000 in
set_option maxRecDepth 10000 in
theorem s_next (w0 : World) (g : Nat) (A : Option Addr) (c : Nat) (bs : List Int) (at_ : Int) (w : World) (hA : Sl w0 1 byteRow A bs) (hb : ∀ x ∈ bs, 0 ≤ x ∧ x ≤ 255) (_hl : bs.length ≤ 1048576) (hC : Cur w0 w g A c bs at_) (h1 : at_ ≤ 1099511627776) :
    Calls Tryz.prog 61 #[.pointer (some ⟨g, 0, none⟩)] w fun e w' => (∃ x, e = .returned (.int .i64 x) ∧ 0 ≤ x ∧ x ≤ 255) ∧ Cur w0 w' g A c bs (at_ + 1) ∧ w.grownBy w' (some g) := by
  obtain ⟨hg, hf, ⟨seed, hB⟩, h0⟩ := hC
  have HA := hid (hA.grew hg)
  have HB := hid hB
  have HG := hid hg
  have hlt := hB.lt
  have hc0 := hB.cell 0
  have hc1 := hB.cell 1
  have hc2 := hB.cell 2
  have hf1 := hB.frozen 1
  have hf2 := hB.frozen 2
  simp at hc0 hc1 hc2
  clear hB hg hA
  by_cases hin : at_ < bs.length
  · obtain ⟨k, hk0⟩ : ∃ k : Nat, at_ = (k : Int) := ⟨at_.toNat, by omega⟩
    subst hk0
    have hk : k < bs.length := by omega
    obtain ⟨b, off, rfl, hb', hc⟩ := HA.out.at_ hk
    have hcb := hc k hk 0 _ rfl
    simp only [Nat.add_zero, Nat.mul_one] at hcb
    clear hc
    obtain ⟨r0, r1⟩ := hb _ (List.getElem_mem hk)
    go_enter Tryz.func61, Tryz.ntmps61
    go_wp2_with fail
    (refine wp_region_calm (by kernel_rfl) (by kernel_rfl) ?_; (repeat' (first | go_big_quiet_step (fail) | (refine wpQuiet_step (fun K hK => ?_); go_simp; go_ite <;> go_simp <;> (first | (refine hK _ ?_; clear hK K) | (apply Exists.intro; refine ⟨fun _ => ?_, hK _ ?_⟩; (fail); clear hK K))))); all_goals (refine wpQuiet_nil ?_; intro _ hw'; obtain ⟨gq, hw''⟩ := hw'; subst hw''))
    go_wp2_with fail
    (refine wp_region_calm (by kernel_rfl) (by kernel_rfl) ?_; (repeat' (first | go_big_quiet_step (fail) | (refine wpQuiet_step (fun K hK => ?_); go_simp; go_ite <;> go_simp <;> (first | (refine hK _ ?_; clear hK K) | (apply Exists.intro; refine ⟨fun _ => ?_, hK _ ?_⟩; (fail); clear hK K))))); all_goals (refine wpQuiet_nil ?_; intro _ hw'; obtain ⟨gq, hw''⟩ := hw'; subst hw''))
    go_wp2_with fail
    (refine wp_region_calm (by kernel_rfl) (by kernel_rfl) ?_; (repeat' (first | go_big_quiet_step (fail) | (refine wpQuiet_step (fun K hK => ?_); go_simp; go_ite <;> go_simp <;> (first | (refine hK _ ?_; clear hK K) | (apply Exists.intro; refine ⟨fun _ => ?_, hK _ ?_⟩; (fail); clear hK K))))); all_goals (refine wpQuiet_nil ?_; intro _ hw'; obtain ⟨gq, hw''⟩ := hw'; subst hw''))
    go_wp2_with fail
    go_ret
    refine ⟨⟨_, rfl, r0, r1⟩, ?_⟩
    (have h7 := fun u v => (HB.out.set_ 1 u).set_ 2 v; simp only [List.setIfInBounds_toArray, List.set_cons_zero, List.set_cons_succ] at h7; have hgg := HG.out; exact ⟨⟨by (repeat (first | with_reducible exact grew_refl _ | with_reducible assumption | with_reducible refine grew_split ?_ | with_reducible refine grew_mk ?_ | with_reducible refine grew_plus ?_ | with_reducible refine grew_alloc ?_ | with_reducible refine grew_drew ?_ | (with_reducible refine grew_set ?_ (by first | exact Nat.le_refl _ | omega | (simp [go_sem]; done) | (simp [go_sem]; omega))))), hf, ⟨_, blk_grew (h7 _ _) (by (repeat (first | with_reducible exact grew_refl _ | with_reducible assumption | with_reducible refine grew_split ?_ | with_reducible refine grew_mk ?_ | with_reducible refine grew_plus ?_ | with_reducible refine grew_alloc ?_ | with_reducible refine grew_drew ?_ | (with_reducible refine grew_set ?_ (by first | exact Nat.le_refl _ | omega | (simp [go_sem]; done) | (simp [go_sem]; omega))))))⟩, by omega⟩, grown_then (grown_set (grown_set (grown_refl _ _))) (by (repeat (first | with_reducible exact grew_refl _ | with_reducible assumption | with_reducible refine grew_split ?_ | with_reducible refine grew_mk ?_ | with_reducible refine grew_plus ?_ | with_reducible refine grew_alloc ?_ | with_reducible refine grew_drew ?_ | (with_reducible refine grew_set ?_ (by first | exact Nat.le_refl _ | omega | (simp [go_sem]; done) | (simp [go_sem]; omega))))))⟩)
  · go_enter Tryz.func61, Tryz.ntmps61
    go_wp2_with fail
    (refine wp_region_calm (by kernel_rfl) (by kernel_rfl) ?_; (repeat' (first | go_big_quiet_step (fail) | (refine wpQuiet_step (fun K hK => ?_); go_simp; go_ite <;> go_simp <;> (first | (refine hK _ ?_; clear hK K) | (apply Exists.intro; refine ⟨fun _ => ?_, hK _ ?_⟩; (fail); clear hK K))))); all_goals (refine wpQuiet_nil ?_; intro _ hw'; obtain ⟨gq, hw''⟩ := hw'; subst hw''))
    go_wp2_with fail
    (refine wp_region_calm (by kernel_rfl) (by kernel_rfl) ?_; (repeat' (first | go_big_quiet_step (fail) | (refine wpQuiet_step (fun K hK => ?_); go_simp; go_ite <;> go_simp <;> (first | (refine hK _ ?_; clear hK K) | (apply Exists.intro; refine ⟨fun _ => ?_, hK _ ?_⟩; (fail); clear hK K))))); all_goals (refine wpQuiet_nil ?_; intro _ hw'; obtain ⟨gq, hw''⟩ := hw'; subst hw''))
    go_wp2_with fail
    go_ret
    refine ⟨⟨_, rfl, wrap255 (and255 _)⟩, ?_⟩
    (have h7 := fun u v => (HB.out.set_ 1 u).set_ 2 v; simp only [List.setIfInBounds_toArray, List.set_cons_zero, List.set_cons_succ] at h7; have hgg := HG.out; exact ⟨⟨by (repeat (first | with_reducible exact grew_refl _ | with_reducible assumption | with_reducible refine grew_split ?_ | with_reducible refine grew_mk ?_ | with_reducible refine grew_plus ?_ | with_reducible refine grew_alloc ?_ | with_reducible refine grew_drew ?_ | (with_reducible refine grew_set ?_ (by first | exact Nat.le_refl _ | omega | (simp [go_sem]; done) | (simp [go_sem]; omega))))), hf, ⟨_, blk_grew (h7 _ _) (by (repeat (first | with_reducible exact grew_refl _ | with_reducible assumption | with_reducible refine grew_split ?_ | with_reducible refine grew_mk ?_ | with_reducible refine grew_plus ?_ | with_reducible refine grew_alloc ?_ | with_reducible refine grew_drew ?_ | (with_reducible refine grew_set ?_ (by first | exact Nat.le_refl _ | omega | (simp [go_sem]; done) | (simp [go_sem]; omega))))))⟩, by omega⟩, grown_then (grown_set (grown_set (grown_refl _ _))) (by (repeat (first | with_reducible exact grew_refl _ | with_reducible assumption | with_reducible refine grew_split ?_ | with_reducible refine grew_mk ?_ | with_reducible refine grew_plus ?_ | with_reducible refine grew_alloc ?_ | with_reducible refine grew_drew ?_ | (with_reducible refine grew_set ?_ (by first | exact Nat.le_refl _ | omega | (simp [go_sem]; done) | (simp [go_sem]; omega))))))⟩)
end Go.Proofs.YtecghfcgahgfiaaGreatDoor
/- The reference's draws of numbers: pick, one, among. -/
namespace Go.Proofs.YtecghfcgahgfiaaGreatDoor
open Go.RowKit

/-- The cursor, at most M bytes on. -/
def CurU (w0 w : World) (g : Nat) (A : Option Addr) (c : Nat) (bs : List Int) (M : Int) : Prop := ∃ at_, Cur w0 w g A c bs at_ ∧ at_ ≤ M
/-- The code lies as it should. -/
structure Code0 (w0 : World) (A : Option Addr) (bs : List Int) : Prop where
  sl : Sl w0 1 byteRow A bs
  ok : ∀ x ∈ bs, 0 ≤ x ∧ x ≤ 255
  len : bs.length ≤ 1048576
theorem Cur.grew' {w0 w w' : World} {g : Nat} {A : Option Addr} {c : Nat} {bs : List Int} {a : Int} (h : Cur w0 w g A c bs a) (hg : ∃ x, w' = plus w x) : Cur w0 w' g A c bs a := by
  obtain ⟨x, rfl⟩ := hg
  exact ⟨grew_plus h.grew, h.far, by obtain ⟨s, hs⟩ := h.blk; exact ⟨s, hs.plus x⟩, h.pos⟩
theorem CurU.grew' {w0 w w' : World} {g : Nat} {A : Option Addr} {c : Nat} {bs : List Int} {M : Int} (h : CurU w0 w g A c bs M) (hg : ∃ x, w' = plus w x) : CurU w0 w' g A c bs M := by
  obtain ⟨a, h1, h2⟩ := h; exact ⟨a, h1.grew' hg, h2⟩
theorem CurU.le {w0 w : World} {g : Nat} {A : Option Addr} {c : Nat} {bs : List Int} {M M' : Int} (h : CurU w0 w g A c bs M) (hM : M ≤ M') : CurU w0 w g A c bs M' := by
  obtain ⟨a, h1, h2⟩ := h; exact ⟨a, h1, by omega⟩
theorem CurU.world {w0 w : World} {g : Nat} {A : Option Addr} {c : Nat} {bs : List Int} {M : Int} (h : CurU w0 w g A c bs M) : ∃ x, w = plus w0 x := by
  obtain ⟨a, h1, _⟩ := h; exact h1.grew
theorem s_nextU (w0 : World) (g : Nat) (A : Option Addr) (c : Nat) (bs : List Int) (M : Int) (w : World) (hA : Code0 w0 A bs) (hC : CurU w0 w g A c bs M) (h1 : M ≤ 1099511627776) :
    Calls Tryz.prog 61 #[.pointer (some ⟨g, 0, none⟩)] w fun e w' => (∃ x, e = .returned (.int .i64 x) ∧ 0 ≤ x ∧ x ≤ 255) ∧ CurU w0 w' g A c bs (M + 1) ∧ w.grownBy w' (some g) := by
  obtain ⟨a, hc, ha⟩ := hC
  exact (s_next w0 g A c bs a w hA.sl hA.ok hA.len hc (by omega)).mono fun e w' ⟨h2, h3, h4⟩ => ⟨h2, ⟨a + 1, h3, by omega⟩, h4⟩
set_option maxHeartbeats 2000000 in
theorem s_pick (w0 : World) (g : Nat) (A : Option Addr) (c : Nat) (bs : List Int) (M n : Int) (w : World) (hA : Code0 w0 A bs) (hC : CurU w0 w g A c bs M) (h1 : M ≤ 1099511627000) (h2 : n ≤ 1048576) :
    Calls Tryz.prog 29 #[.pointer (some ⟨g, 0, none⟩), .int .i64 n] w fun e w' => (∃ x, e = .returned (.int .i64 x) ∧ 0 ≤ x ∧ x < max 1 n) ∧ CurU w0 w' g A c bs (M + 2) ∧ w.grownBy w' (some g) := by
  have HC := hid hC
  clear hC
  by_cases hn : n ≤ 1
  · go_enter Tryz.func29, Tryz.ntmps29
    go_wp2_with fail
    go_ret
    exact ⟨⟨_, rfl, by omega, by omega⟩, HC.out.le (by omega), grown_refl _ _⟩
  have hn' : 1 < n := by omega
  by_cases h200 : n > 200
  · go_enter Tryz.func29, Tryz.ntmps29
    go_wp2_with fail
    refine (s_nextU w0 g A c bs M _ hA HC.out (by omega)).mono ?_
    rintro e w1 ⟨⟨x, rfl, x0, x1⟩, hC1, hG1⟩
    have HC1 := hid hC1
    have HG1 := hid hG1
    clear hC1 hG1
    go_wp2_with fail
    refine (s_nextU w0 g A c bs (M + 1) _ hA HC1.out (by omega)).mono ?_
    rintro e w2 ⟨⟨y, rfl, y0, y1⟩, hC2, hG2⟩
    have HC2 := hid hC2
    have HG2 := hid hG2
    clear hC2 hG2
    go_wp2_with fail
    go_ret
    exact ⟨⟨_, rfl, Int.emod_nonneg _ (by omega), Int.lt_of_lt_of_le (Int.emod_lt_of_pos _ (by omega)) (by omega)⟩, HC2.out.le (by omega), HG1.out.trans HG2.out⟩
  · go_enter Tryz.func29, Tryz.ntmps29
    go_wp2_with fail
    refine (s_nextU w0 g A c bs M _ hA HC.out (by omega)).mono ?_
    rintro e w1 ⟨⟨x, rfl, x0, x1⟩, hC1, hG1⟩
    have HC1 := hid hC1
    have HG1 := hid hG1
    clear hC1 hG1
    go_wp2_with fail
    go_ret
    exact ⟨⟨_, rfl, Int.emod_nonneg _ (by omega), Int.lt_of_lt_of_le (Int.emod_lt_of_pos _ (by omega)) (by omega)⟩, HC1.out.le (by omega), HG1.out⟩
set_option maxHeartbeats 1000000 in
theorem s_one (w0 : World) (g : Nat) (A : Option Addr) (c : Nat) (bs : List Int) (M n : Int) (w : World) (hA : Code0 w0 A bs) (hC : CurU w0 w g A c bs M) (h1 : M ≤ 1099511627000) (h2 : n ≤ 1048576) :
    Calls Tryz.prog 28 #[.pointer (some ⟨g, 0, none⟩), .int .i64 n] w fun e w' => (∃ b, e = .returned (.bool b)) ∧ CurU w0 w' g A c bs (M + 2) ∧ w.grownBy w' (some g) := by
  have HC := hid hC
  clear hC
  go_enter Tryz.func28, Tryz.ntmps28
  go_wp2_with fail
  refine (s_pick w0 g A c bs M n _ hA HC.out h1 h2).mono ?_
  rintro e w1 ⟨⟨x, rfl, x0, x1⟩, hC1, hG1⟩
  have HC1 := hid hC1
  have HG1 := hid hG1
  clear hC1 hG1
  go_wp2_with fail
  go_ret
  exact ⟨⟨_, rfl⟩, HC1.out, HG1.out⟩
theorem sl_kept {α : Type} {w w' : World} {s : Nat} {cells : α → List Value} {A : Option Addr} {l : List α} {g : Nat} (h : Sl w s cells A l) (hg : w.grownBy w' (some g)) (hne : ∀ a, A = some a → a.block ≠ g) : Sl w' s cells A l := by
  rcases h with h | ⟨b, off, hA, hlt, hc⟩
  · exact .inl h
  · have hb := hg.block b hlt (by intro e; injection e with e; exact hne _ hA e)
    exact .inr ⟨b, off, hA, Nat.lt_of_lt_of_le hlt hg.size, fun i hi j u hu => (World.cell?_of_block hb).trans (hc i hi j u hu)⟩
set_option maxHeartbeats 1000000 in
theorem s_among (w0 : World) (g : Nat) (A : Option Addr) (c : Nat) (bs : List Int) (M : Int) (l : List Int) (B : Option Addr) (d : Nat) (w : World) (hA : Code0 w0 A bs) (hC : CurU w0 w g A c bs M) (h1 : M ≤ 1099511627000) (hB : Sl w 1 intRow B l) (hne : ∀ a, B = some a → a.block ≠ g) (hl : 0 < l.length) (h2 : l.length ≤ 1048576) :
    Calls Tryz.prog 52 #[.pointer (some ⟨g, 0, none⟩), .slice B l.length d] w fun e w' => (∃ x, e = .returned (.int .i64 x) ∧ x ∈ l) ∧ CurU w0 w' g A c bs (M + 2) ∧ w.grownBy w' (some g) := by
  have HC := hid hC
  have HB := hid hB
  clear hC hB
  go_enter Tryz.func52, Tryz.ntmps52
  go_wp2_with fail
  refine (s_pick w0 g A c bs M l.length _ hA HC.out h1 (by omega)).mono ?_
  rintro e w1 ⟨⟨x, rfl, x0, x1⟩, hC1, hG1⟩
  obtain ⟨k, hk0⟩ : ∃ k : Nat, x = (k : Int) := ⟨x.toNat, by omega⟩
  subst hk0
  have hk : k < l.length := by omega
  obtain ⟨b, off, hBe, hb, hc⟩ := (sl_kept HB.out hG1 hne).at_ hk
  subst hBe
  have hc0 := icells hc hk
  have HC1 := hid hC1
  have HG1 := hid hG1
  clear hC1 hG1 hc hne
  go_wp2_with fail
  go_ret
  exact ⟨⟨_, rfl, List.getElem_mem hk⟩, HC1.out, HG1.out⟩
end Go.Proofs.YtecghfcgahgfiaaGreatDoor
