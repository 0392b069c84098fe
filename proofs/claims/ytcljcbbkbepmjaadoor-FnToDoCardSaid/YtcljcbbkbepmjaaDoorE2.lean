/- How many lines are possible: the package's own walk, over the sort of Go's library. -/
import Derived.Test.YtcljcbbkbepmjaaDoorE1
import Derived.Test.YtcljcbbkbepmjaaDoorM1
import Derived.Test.YtcljcbbkbepmjaaDoorShelf
namespace Go.Proofs.YtcljcbbkbepmjaaDoor
open Go.RowKit Go.Sort

theorem openTo_yes {v : DayC} {k : Nat} (hk : k < v.lines.length) (h : openB v k = true) : openTo v (k + 1) = openTo v k ++ [v.lines[k].minutes] := by simp [openTo, h, mAt, hk]
theorem openTo_no {v : DayC} {k : Nat} (h : openB v k = false) : openTo v (k + 1) = openTo v k := by simp [openTo, h]
theorem openB_eq {v : DayC} {k : Nat} (hk : k < v.lines.length) : openB v k = (!v.lines[k].done && decide ((k : Int) + 1 ≠ v.line)) := by simp [openB, doneAt, hk]
theorem open_one {v : DayC} (hv : v.ok = true) {x : Int} : ∀ k, k ≤ v.lines.length → x ∈ openTo v k → 1 ≤ x ∧ x ≤ 300 := by
  intro k
  induction k with
  | zero => simp [openTo]
  | succ k ih =>
    intro hk hx
    have hlt : k < v.lines.length := by omega
    simp only [openTo] at hx
    split at hx
    · rcases List.mem_append.1 hx with hx | hx
      · exact ih (by omega) hx
      · simp [mAt, hlt] at hx
        have := DayC.mins hv hlt
        omega
    · exact ih (by omega) hx
theorem sOf_one {v : DayC} (hv : v.ok = true) {k : Nat} (hk : k < (sOf v).length) : 1 ≤ (sOf v)[k] ∧ (sOf v)[k] ≤ 300 :=
  open_one hv _ (Nat.le_refl _) ((srt_perm _).mem_iff.1 (List.getElem_mem hk))
theorem greedy_bounds {v : DayC} (hv : v.ok = true) (L : Int) (h0 : 0 ≤ L) : ∀ k, 0 ≤ (greedy (sOf v) L k).1 ∧ (greedy (sOf v) L k).1 ≤ k ∧ 0 ≤ (greedy (sOf v) L k).2 ∧ (greedy (sOf v) L k).2 ≤ L := by
  intro k
  induction k with
  | zero => simp [greedy]; exact h0
  | succ k ih =>
    simp only [greedy]
    split
    · rename_i hk
      have := sOf_one hv hk
      split <;> (try simp only) <;> omega
    · omega
theorem greedy_yes {S : List Int} {L : Int} {k : Nat} (hk : k < S.length) (h : S[k] ≤ (greedy S L k).2) : greedy S L (k + 1) = ((greedy S L k).1 + 1, (greedy S L k).2 - S[k]) := by simp [greedy, hk, h]
theorem greedy_no {S : List Int} {L : Int} {k : Nat} (hk : k < S.length) (h : ¬ S[k] ≤ (greedy S L k).2) : greedy S L (k + 1) = greedy S L k := by simp [greedy, hk, h]
/-- The library's sort, over a list of the call's own. -/
theorem i_sort (w0 w : World) (A : Option Addr) (c : Nat) (l : List Int) (hO : OwnF w0.heap.size 3 1 intRow w A l) (hw : ∃ g, w = plus w0 g) (hl : l.length ≤ 1048576) :
    Calls Tryd.prog 24 #[.slice A l.length c] w fun e w' => e = .returned (.tuple #[]) ∧ Sl w' 1 intRow A (srt l) ∧ ∃ g, w' = plus w0 g := by
  rcases OwnF.split hO with rfl | ⟨hpos, g, cs, rfl, hb, hB, hs, hF⟩
  · exact (Tryd.slices_Sort_int_none A c w).mono fun e w' ⟨he, hw'⟩ => ⟨he, .inl (by simp [srt]), by rw [hw']; exact hw⟩
  · have hH : Holds (Value.int .i64) w g 0 l.toArray := by
      intro j hj
      have hj' : j < l.length := by simpa using hj
      refine ⟨?_, hB.frozen _⟩
      rw [hB.cell, Nat.zero_add]
      have := hF j hj' hj' 0 (.int .i64 l[j]) rfl
      rw [show j * 1 + 0 = j by omega] at this
      rw [this]
      simp [hj']
    refine (Tryd.slices_Sort_int g 0 c l w hH hB.lt (by omega)).mono fun e w' h => ?_
    obtain ⟨he, n, os, rfl⟩ := h
    have hsl : (srt l).length = l.length := (srt_perm l).length_eq
    refine ⟨he, .inr ⟨g, 0, rfl, ?_, ?_⟩, ?_⟩
    · have := hB.lt
      simp [Go.Sort.grow, putRow, mapBlock, Go.Sort.ahead]; omega
    · intro i hi j u hu
      have hj : j = 0 := by have := (List.getElem?_eq_some_iff.1 hu).1; simp [intRow] at this; omega
      subst hj
      have hu' : u = .int .i64 (srt l)[i] := by simpa [intRow] using hu.symm
      subst hu'
      rw [cell?_grow _ _ _ (by have := hB.lt; simpa [putRow, mapBlock, Go.Sort.ahead] using this)]
      have := cell?_putRow (Value.int .i64) (Go.Sort.ahead w n) g 0 l.toArray (srt l).toArray hH (by simp [hsl]) i (by simpa using hi)
      rw [show 0 + i * 1 + 0 = 0 + i by omega]
      rw [show (l.mergeSort fun x y => decide (x ≤ y)) = srt l from rfl, this]
      simp [hi]
    · refine plus_of_below ?_
      have hbw := below_of_grew hw
      refine ⟨hbw.os, hbw.tape, hbw.output, ?_, ?_⟩
      · have := hbw.size
        simp [Go.Sort.grow, putRow, mapBlock, Go.Sort.ahead]; omega
      · intro k hk
        rw [heap_grow_old _ _ (by have := hbw.size; simp [putRow, mapBlock, Go.Sort.ahead]; omega)]
        rw [← hbw.block k hk]
        simp only [putRow, mapBlock, Go.Sort.ahead, Array.getElem?_modify]
        rw [if_neg (by omega)]
set_option maxHeartbeats 2000000 in
theorem i_MostLines (v : DayV) (w : World) (hv : v.At w) :
    Calls Tryd.prog 11 #[v.val] w fun e w' => e = .returned (.tuple #[.int .i64 (mostF v.core).1, .bool (mostF v.core).2]) ∧ ∃ g, w' = plus w g := by
  have HV := hid hv
  cases ho : v.core.ok
  · have HF : Hid (mostF v.core = (0, false)) := hid (by simp [mostF, ho])
    clear hv
    go_enter Tryd.func11, Tryd.ntmps11
    go_wp2_with (go_at_call 21; refine (i_IsSurveyDay v _ ho _ (HV.out.alloc _)).mono ?_; (rintro e w' ⟨rfl, gx, rfl⟩))
    go_ret2
    exact ⟨ret_ib (by rw [HF.out]) (by rw [HF.out]), by (repeat (first | with_reducible exact grew_refl _ | with_reducible assumption | with_reducible refine grew_split ?_ | with_reducible refine grew_mk ?_ | with_reducible refine grew_plus ?_ | with_reducible refine grew_alloc ?_ | with_reducible refine grew_drew ?_ | (with_reducible refine grew_set ?_ (by first | exact Nat.le_refl _ | omega | (simp [go_sem]; done) | (simp [go_sem]; omega)))))⟩
  · have HF : Hid (mostF v.core = ((greedy (sOf v.core) (1440 - v.core.minute) (sOf v.core).length).1, true)) := hid (by simp [mostF, ho])
    have HO := hid ho
    clear hv
    go_enter Tryd.func11, Tryd.ntmps11
    go_wp2_with (go_at_call 21; refine (i_IsSurveyDay v _ ho _ (HV.out.alloc _)).mono ?_; (rintro e w' ⟨rfl, gx, rfl⟩))
    have hp := HV.out.ln
    have hb := DayC.bounds ho
    obtain ⟨⟨minute, state, lines, line, since, cast, fuel⟩, A, c⟩ := v
    simp only at hp hb HF HO ⊢
    obtain ⟨b1, b2, b3, b4, b5, b6, b7, b8, b9, b10, b11, b12, b13, b14⟩ := hb
    clear ho
    generalize hD : (⟨minute, state, lines, line, since, cast, fuel⟩ : DayC) = D at HF HO
    have hDl : D.lines = lines := by rw [← hD]
    have HDL := hid hD
    have HN := hid (openTo_len D lines.length)
    go_loopw [4, 18, 6] (fun a i _ wr => ∃ (k : Nat) (A' : Option Addr) (c' : Nat), k ≤ lines.length ∧ i = .int .i64 k ∧ a = .slice A' (openTo D k).length c' ∧ Own (w.alloc (.cells #[.int .i64 minute, .int .i64 state, .slice A lines.length c, .int .i64 line, .int .i64 since, .int .i64 cast, .int .i64 fuel] 26)).heap.size 3 1 intRow wr A' c' (openTo D k) ∧ (∃ g, wr = plus (w.alloc (.cells #[.int .i64 minute, .int .i64 state, .slice A lines.length c, .int .i64 line, .int .i64 since, .int .i64 cast, .int .i64 fuel] 26)) g)) (fun _ i _ _ => lines.length - (intOf i).toNat)
    case atStart => exact ⟨0, _, _, Nat.zero_le _, rfl, rfl, Own.new rfl (by simp [go_sem]) (by simp [go_sem]), by (repeat (first | with_reducible exact grew_refl _ | with_reducible assumption | with_reducible refine grew_split ?_ | with_reducible refine grew_mk ?_ | with_reducible refine grew_plus ?_ | with_reducible refine grew_alloc ?_ | with_reducible refine grew_drew ?_ | (with_reducible refine grew_set ?_ (by first | exact Nat.le_refl _ | omega | (simp [go_sem]; done) | (simp [go_sem]; omega)))))⟩
    case round =>
      obtain ⟨k, A', c', hk, rfl, rfl, hO, g, rfl⟩ := hrel
      have HOw := hid hO
      have hln := openTo_len D k
      clear hO
      by_cases hlt : k < lines.length
      · obtain ⟨b, off, rfl, hb, hc⟩ := hp.at_ hlt
        obtain ⟨hc0, hc1⟩ := lcells hc hlt
        have heq : openB D k = (!lines[k].done && decide ((k : Int) + 1 ≠ line)) := by subst hD; exact openB_eq (v := ⟨minute, state, lines, line, since, cast, fuel⟩) hlt
        clear hc hp hDl hD
        cases hd : openB D k
        · have HT := hid (openTo_no hd)
          rw [hd] at heq
          cases h1 : lines[k].done
          · have h2 : ((k : Int) + 1 != line) = false := by simp [h1] at heq; simp; exact heq
            clear heq hd
            go_wp2_with fail
            go_roundw
            case rel => exact ⟨k + 1, _, _, by omega, by go_num, vsl (by rw [HT.out]), by rw [HT.out]; exact HOw.out.grew (by (repeat (first | with_reducible exact grew_refl _ | with_reducible assumption | with_reducible refine grew_split ?_ | with_reducible refine grew_mk ?_ | with_reducible refine grew_plus ?_ | with_reducible refine grew_alloc ?_ | with_reducible refine grew_drew ?_ | (with_reducible refine grew_set ?_ (by first | exact Nat.le_refl _ | omega | (simp [go_sem]; done) | (simp [go_sem]; omega)))))), by (repeat (first | with_reducible exact grew_refl _ | with_reducible assumption | with_reducible refine grew_split ?_ | with_reducible refine grew_mk ?_ | with_reducible refine grew_plus ?_ | with_reducible refine grew_alloc ?_ | with_reducible refine grew_drew ?_ | (with_reducible refine grew_set ?_ (by first | exact Nat.le_refl _ | omega | (simp [go_sem]; done) | (simp [go_sem]; omega)))))⟩
            case measure => simp [intOf]; omega
          · clear heq hd
            go_wp2_with fail
            go_roundw
            case rel => exact ⟨k + 1, _, _, by omega, by go_num, vsl (by rw [HT.out]), by rw [HT.out]; exact HOw.out.grew (by (repeat (first | with_reducible exact grew_refl _ | with_reducible assumption | with_reducible refine grew_split ?_ | with_reducible refine grew_mk ?_ | with_reducible refine grew_plus ?_ | with_reducible refine grew_alloc ?_ | with_reducible refine grew_drew ?_ | (with_reducible refine grew_set ?_ (by first | exact Nat.le_refl _ | omega | (simp [go_sem]; done) | (simp [go_sem]; omega)))))), by (repeat (first | with_reducible exact grew_refl _ | with_reducible assumption | with_reducible refine grew_split ?_ | with_reducible refine grew_mk ?_ | with_reducible refine grew_plus ?_ | with_reducible refine grew_alloc ?_ | with_reducible refine grew_drew ?_ | (with_reducible refine grew_set ?_ (by first | exact Nat.le_refl _ | omega | (simp [go_sem]; done) | (simp [go_sem]; omega)))))⟩
            case measure => simp [intOf]; omega
        · have HT : Hid (openTo D (k + 1) = openTo D k ++ [lines[k].minutes]) := hid (by have := HDL.out; subst this; exact openTo_yes (v := ⟨minute, state, lines, line, since, cast, fuel⟩) hlt hd)
          rw [hd] at heq
          have h1 : lines[k].done = false := by cases h : lines[k].done <;> simp [h] at heq ⊢
          have h2 : ((k : Int) + 1 != line) = true := by simp [h1] at heq; simp; exact heq
          clear heq hd
          go_wp2_with (at_builtin; go_loud (refine wpList_app rfl _ _ _ rfl 3 1 8 _ Tryd.underlying30 int_info rfl (by omega) (by omega) _ _ _ rfl (HOw.out.grew (by (repeat (first | with_reducible exact grew_refl _ | with_reducible assumption | with_reducible refine grew_split ?_ | with_reducible refine grew_mk ?_ | with_reducible refine grew_plus ?_ | with_reducible refine grew_alloc ?_ | with_reducible refine grew_drew ?_ | (with_reducible refine grew_set ?_ (by first | exact Nat.le_refl _ | omega | (simp [go_sem]; done) | (simp [go_sem]; omega))))))) (by (repeat (first | with_reducible exact grew_refl _ | with_reducible assumption | with_reducible refine grew_split ?_ | with_reducible refine grew_mk ?_ | with_reducible refine grew_plus ?_ | with_reducible refine grew_alloc ?_ | with_reducible refine grew_drew ?_ | (with_reducible refine grew_set ?_ (by first | exact Nat.le_refl _ | omega | (simp [go_sem]; done) | (simp [go_sem]; omega)))))) (by omega) _ lines[k].minutes _ rfl rfl (by intro j u hj; match j, hj with | 0, hj => simp [intRow] at hj; subst hj; simp [Addr.add, go_sem]) (by simp [intRow, Value.oneCell']) ?_); intro A1 c1 g1 HO1)
          go_roundw
          case rel => exact ⟨k + 1, _, _, by omega, by go_num, vsl (by rw [HT.out]; simp), by rw [HT.out]; exact HO1.grew (by (repeat (first | with_reducible exact grew_refl _ | with_reducible assumption | with_reducible refine grew_split ?_ | with_reducible refine grew_mk ?_ | with_reducible refine grew_plus ?_ | with_reducible refine grew_alloc ?_ | with_reducible refine grew_drew ?_ | (with_reducible refine grew_set ?_ (by first | exact Nat.le_refl _ | omega | (simp [go_sem]; done) | (simp [go_sem]; omega)))))), by (repeat (first | with_reducible exact grew_refl _ | with_reducible assumption | with_reducible refine grew_split ?_ | with_reducible refine grew_mk ?_ | with_reducible refine grew_plus ?_ | with_reducible refine grew_alloc ?_ | with_reducible refine grew_drew ?_ | (with_reducible refine grew_set ?_ (by first | exact Nat.le_refl _ | omega | (simp [go_sem]; done) | (simp [go_sem]; omega)))))⟩
          case measure => simp [intOf]; omega
      · obtain rfl : k = lines.length := by omega
        clear hp
        go_wp2_with fail
        refine (i_sort (w.alloc (.cells #[.int .i64 minute, .int .i64 state, .slice A lines.length c, .int .i64 line, .int .i64 since, .int .i64 cast, .int .i64 fuel] 26)) _ A' c' (openTo D lines.length) ((HOw.out.f intRow_len).grew (by (repeat (first | with_reducible exact grew_refl _ | with_reducible assumption | with_reducible refine grew_split ?_ | with_reducible refine grew_mk ?_ | with_reducible refine grew_plus ?_ | with_reducible refine grew_alloc ?_ | with_reducible refine grew_drew ?_ | (with_reducible refine grew_set ?_ (by first | exact Nat.le_refl _ | omega | (simp [go_sem]; done) | (simp [go_sem]; omega))))))) (by (repeat (first | with_reducible exact grew_refl _ | with_reducible assumption | with_reducible refine grew_split ?_ | with_reducible refine grew_mk ?_ | with_reducible refine grew_plus ?_ | with_reducible refine grew_alloc ?_ | with_reducible refine grew_drew ?_ | (with_reducible refine grew_set ?_ (by first | exact Nat.le_refl _ | omega | (simp [go_sem]; done) | (simp [go_sem]; omega)))))) (by omega)).mono ?_
        rintro e w2 ⟨rfl, hS, hg2⟩
        obtain ⟨g2, rfl⟩ := hg2
        have hmin : D.minute = minute := by rw [← hD]
        rw [show openTo D lines.length = openTo D D.lines.length by rw [hDl]] at hS ⊢
        have hSl : (openTo D D.lines.length).length = (sOf D).length := (srt_perm _).length_eq.symm
        have HSl := hid hSl
        have HS := hid (show Sl (plus (w.alloc (.cells #[.int .i64 minute, .int .i64 state, .slice A lines.length c, .int .i64 line, .int .i64 since, .int .i64 cast, .int .i64 fuel] 26)) g2) 1 intRow A' (sOf D) from hS)
        have HM := hid hmin
        have hs8 : (sOf D).length ≤ 8 := by have := sOf_len D; rw [hDl] at this; omega
        clear hS hSl hDl hD hmin hln
        rw [HSl.out]
        go_wp2_with fail
        (refine wp_region_calm (by kernel_rfl) (by kernel_rfl) ?_; (repeat' (first | go_big_quiet_step (fail) | (refine wpQuiet_step (fun K hK => ?_); go_simp; go_ite <;> go_simp <;> (first | (refine hK _ ?_; clear hK K) | (apply Exists.intro; refine ⟨fun _ => ?_, hK _ ?_⟩; (fail); clear hK K))))); all_goals (refine wpQuiet_nil ?_; intro _ hw'; obtain ⟨gq, hw''⟩ := hw'; subst hw''))
        go_wp2_with fail
        have GB := hid (fun k => greedy_bounds HO.out (1440 - minute) (by omega) k)
        go_loopw [7, 8, 46, 10] (fun cn lf i _ wr => ∃ k : Nat, k ≤ (sOf D).length ∧ i = .int .i64 k ∧ cn = .int .i64 (greedy (sOf D) (1440 - minute) k).1 ∧ lf = .int .i64 (greedy (sOf D) (1440 - minute) k).2 ∧ (∃ g, wr = plus (plus (w.alloc (.cells #[.int .i64 minute, .int .i64 state, .slice A lines.length c, .int .i64 line, .int .i64 since, .int .i64 cast, .int .i64 fuel] 26)) g2) g)) (fun _ _ i _ _ => (sOf D).length - (intOf i).toNat)
        case atStart => exact ⟨0, Nat.zero_le _, rfl, rfl, rfl, by (repeat (first | with_reducible exact grew_refl _ | with_reducible assumption | with_reducible refine grew_split ?_ | with_reducible refine grew_mk ?_ | with_reducible refine grew_plus ?_ | with_reducible refine grew_alloc ?_ | with_reducible refine grew_drew ?_ | (with_reducible refine grew_set ?_ (by first | exact Nat.le_refl _ | omega | (simp [go_sem]; done) | (simp [go_sem]; omega)))))⟩
        case round =>
          obtain ⟨k, hk, rfl, rfl, rfl, hg⟩ := hrel
          have HS3 := hid (HS.out.grew hg)
          have HG := hid hg
          obtain ⟨p0, p1, p2, p3⟩ := GB.out k
          by_cases hlt : k < (sOf D).length
          · obtain ⟨b, off, rfl, hb, hc⟩ := HS3.out.at_ hlt
            have hc0 := icells hc hlt
            obtain ⟨m0, m1⟩ := sOf_one HO.out hlt
            clear hc hg
            by_cases hle : (sOf D)[k] ≤ (greedy (sOf D) (1440 - minute) k).2
            · have HY := hid (greedy_yes hlt hle)
              go_wp2_with fail
              go_roundw
              case rel => exact ⟨k + 1, by omega, by go_num, vint (by rw [HY.out]), vint (by rw [HY.out]), by have hg := HG.out; (repeat (first | with_reducible exact grew_refl _ | with_reducible assumption | with_reducible refine grew_split ?_ | with_reducible refine grew_mk ?_ | with_reducible refine grew_plus ?_ | with_reducible refine grew_alloc ?_ | with_reducible refine grew_drew ?_ | (with_reducible refine grew_set ?_ (by first | exact Nat.le_refl _ | omega | (simp [go_sem]; done) | (simp [go_sem]; omega)))))⟩
              case measure => simp [intOf]; omega
            · have HY := hid (greedy_no hlt hle)
              go_wp2_with fail
              go_roundw
              case rel => exact ⟨k + 1, by omega, by go_num, vint (by rw [HY.out]), vint (by rw [HY.out]), by have hg := HG.out; (repeat (first | with_reducible exact grew_refl _ | with_reducible assumption | with_reducible refine grew_split ?_ | with_reducible refine grew_mk ?_ | with_reducible refine grew_plus ?_ | with_reducible refine grew_alloc ?_ | with_reducible refine grew_drew ?_ | (with_reducible refine grew_set ?_ (by first | exact Nat.le_refl _ | omega | (simp [go_sem]; done) | (simp [go_sem]; omega)))))⟩
              case measure => simp [intOf]; omega
          · obtain rfl : k = (sOf D).length := by omega
            clear hg
            go_wp2_with fail
            go_ret2
            have hm := HM.out
            have hg := HG.out
            exact ⟨ret_ib (by rw [HDL.out, HF.out]) (by rw [HDL.out, HF.out]), by obtain ⟨_, rfl⟩ := hg; (repeat (first | with_reducible exact grew_refl _ | with_reducible assumption | with_reducible refine grew_split ?_ | with_reducible refine grew_mk ?_ | with_reducible refine grew_plus ?_ | with_reducible refine grew_alloc ?_ | with_reducible refine grew_drew ?_ | (with_reducible refine grew_set ?_ (by first | exact Nat.le_refl _ | omega | (simp [go_sem]; done) | (simp [go_sem]; omega)))))⟩
end Go.Proofs.YtcljcbbkbepmjaaDoor
