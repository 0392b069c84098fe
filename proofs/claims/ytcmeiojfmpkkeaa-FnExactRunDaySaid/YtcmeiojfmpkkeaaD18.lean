/- The laws' conversions of lists of steps; marks of them; steps that came in. -/
import Derived.Test.YtcmeiojfmpkkeaaD17
import Derived.Test.YtcmeiojfmpkkeaaD5
import Derived.Test.YtcmeiojfmpkkeaaOpenDay
namespace Go.Proofs.Ytcmeiojfmpkkeaa
open Go.ChangeShapes Go.WideShapes Go.ChangeAt Go.RowKit Go.Deep Go.Joins
open Go.ChangeMaps (open_string shut_string)

def markT (m : Int) (i : Nat) : StepR := ⟨m + 2 * (i : Int), m + 2 * (i : Int) + 1⟩
def marksT (m : Int) (n : Nat) : List StepR := (List.range n).map (markT m)
theorem marksT_len (k : Int) (n : Nat) : (marksT k n).length = n := by simp [marksT]
theorem marksT_get (k : Int) (n i : Nat) (hi : i < (marksT k n).length) : (marksT k n)[i] = markT k i := by simp [marksT]
set_option maxHeartbeats 400000 in
theorem l_eqDayStep (p : StepR) (w : World) :
    Calls Try.prog 63 #[.agg #[.int .i64 p.kind, .int .i64 p.value], .agg #[.int .i64 p.kind, .int .i64 p.value]] w fun e' w' => e' = .returned (.bool true) ∧ ∃ g, w' = plus w g := by
  go_enter Try.func63, Try.ntmps63
  go_wp2
  go_ret
  exact ⟨rfl, by (repeat (first | with_reducible exact grew_refl _ | with_reducible assumption | with_reducible refine grew_split ?_ | with_reducible refine grew_mk ?_ | with_reducible refine grew_plus ?_ | with_reducible refine grew_alloc ?_ | with_reducible refine grew_drew ?_ | (with_reducible refine grew_set ?_ (by first | exact Nat.le_refl _ | omega | (simp [go_sem]; done) | (simp [go_sem]; omega)))))⟩
set_option maxHeartbeats 1000000 in
theorem l_eqDayStepS (l : List StepR) (A B : Option Addr) (c d : Nat) (w : World) (hA : Sl w 2 StepR.row A l) (hB : Sl w 2 StepR.row B l) (hl : l.length ≤ maxLen) :
    Calls Try.prog 38 #[.slice A l.length c, .slice B l.length d] w fun e' w' => e' = .returned (.bool true) ∧ ∃ g, w' = plus w g := by
  unfold maxLen at hl
  go_enter Try.func38, Try.ntmps38
  go_wp2_with fail
  go_loopw [5] (fun i wr => ∃ k : Nat, k ≤ l.length ∧ i = .int .i64 k ∧ (∃ g, wr = plus w g)) (fun i _ => l.length - (intOf i).toNat)
  case atStart => exact ⟨0, Nat.zero_le _, rfl, _, plus_refl _⟩
  case round =>
    obtain ⟨k, hk, rfl, g, rfl⟩ := hrel
    by_cases hlt : k < l.length
    · obtain ⟨b, off, rfl, hb, hc⟩ := hA.at_ hlt
      obtain ⟨b', off', rfl, hb', hc'⟩ := hB.at_ hlt
      obtain ⟨hc0, hc1⟩ := scells hc hlt
      obtain ⟨hd0, hd1⟩ := scells hc' hlt
      clear hc hA hc' hB
      go_wp2_with fail
      (refine wp_region_calm (by kernel_rfl) (by kernel_rfl) ?_; (repeat' (first | go_big_quiet_step ((go_at_call 63; first | exact calm_of (l_eqDayStep l[k] _) | exact calm_add (l_eqDayStep l[k] _))) | (refine wpQuiet_step (fun K hK => ?_); go_simp; go_ite <;> go_simp <;> (first | (refine hK _ ?_; clear hK K) | (apply Exists.intro; refine ⟨fun _ => ?_, hK _ ?_⟩; ((go_at_call 63; first | exact calm_of (l_eqDayStep l[k] _) | exact calm_add (l_eqDayStep l[k] _))); clear hK K))))); all_goals (refine wpQuiet_nil ?_; intro _ hw'; obtain ⟨gq, hw''⟩ := hw'; subst hw''))
      go_wp2
      go_roundw
      case rel => exact ⟨k + 1, by omega, by go_num, by (repeat (first | with_reducible exact grew_refl _ | with_reducible assumption | with_reducible refine grew_split ?_ | with_reducible refine grew_mk ?_ | with_reducible refine grew_plus ?_ | with_reducible refine grew_alloc ?_ | with_reducible refine grew_drew ?_ | (with_reducible refine grew_set ?_ (by first | exact Nat.le_refl _ | omega | (simp [go_sem]; done) | (simp [go_sem]; omega)))))⟩
      case measure => simp [intOf]; omega
    · go_wp2
      go_ret
      exact ⟨rfl, by (repeat (first | with_reducible exact grew_refl _ | with_reducible assumption | with_reducible refine grew_split ?_ | with_reducible refine grew_mk ?_ | with_reducible refine grew_plus ?_ | with_reducible refine grew_alloc ?_ | with_reducible refine grew_drew ?_ | (with_reducible refine grew_set ?_ (by first | exact Nat.le_refl _ | omega | (simp [go_sem]; done) | (simp [go_sem]; omega)))))⟩
set_option maxHeartbeats 400000 in
theorem l_szDayStepS (A : Option Addr) (m c : Nat) (n : Int) (w : World) (hl : m ≤ maxLen) (h0 : 0 ≤ n) (h1 : n ≤ 1048576) :
    Calls Try.prog 34 #[.slice A m c, .int .i64 n] w fun e' w' => (∃ k, e' = .returned (.int .i64 k) ∧ -1 ≤ k ∧ k ≤ n ∧ (0 ≤ k → m ≤ 1048576)) ∧ ∃ g, w' = plus w g := by
  unfold maxLen at hl
  go_enter Try.func34, Try.ntmps34
  go_wp2
  all_goals
    go_ret
    exact ⟨⟨_, rfl, by omega, by omega, by omega⟩, by (repeat (first | with_reducible exact grew_refl _ | with_reducible assumption | with_reducible refine grew_split ?_ | with_reducible refine grew_mk ?_ | with_reducible refine grew_plus ?_ | with_reducible refine grew_alloc ?_ | with_reducible refine grew_drew ?_ | (with_reducible refine grew_set ?_ (by first | exact Nat.le_refl _ | omega | (simp [go_sem]; done) | (simp [go_sem]; omega)))))⟩
set_option maxHeartbeats 400000 in
theorem l_toDayStep (p : StepR) (w : World) :
    Calls Try.prog 32 #[.agg #[.int .i64 p.kind, .int .i64 p.value]] w fun e' w' => e' = .returned (.agg #[.int .i64 p.kind, .int .i64 p.value]) ∧ ∃ g, w' = plus w g := by
  go_enter Try.func32, Try.ntmps32
  go_wp2
  refine bodyPost_ret (v := .agg #[.int .i64 p.kind, .int .i64 p.value]) (by simp [results, Try.results32, go_sem]) rfl ⟨rfl, ?_⟩
  (repeat (first | with_reducible exact grew_refl _ | with_reducible assumption | with_reducible refine grew_split ?_ | with_reducible refine grew_mk ?_ | with_reducible refine grew_plus ?_ | with_reducible refine grew_alloc ?_ | with_reducible refine grew_drew ?_ | (with_reducible refine grew_set ?_ (by first | exact Nat.le_refl _ | omega | (simp [go_sem]; done) | (simp [go_sem]; omega)))))
theorem daystep_info : (Try.prog.info? 50).map (fun i => (i.zero, i.size, i.bytes)) = some (some (.agg #[.int .i64 0, .int .i64 0]), 2, 16) := by kernel_rfl
set_option maxHeartbeats 1000000 in
theorem l_toDayStepS (l : List StepR) (A : Option Addr) (c : Nat) (w : World) (hA : Sl w 2 StepR.row A l) (hl : l.length * 16 ≤ 140737488355328) :
    Calls Try.prog 36 #[.slice A l.length c] w fun e' w' => (∃ g cs, e' = .returned (.slice (some ⟨g, 0, none⟩) l.length l.length) ∧ w.heap.size ≤ g ∧ Blk w' g 50 cs ∧ cs.size = l.length * 2 ∧ Filled cs 2 StepR.row l l.length) ∧ ∃ g, w' = plus w g := by
  obtain ⟨i0, hi0, hz0, hz1, hz2⟩ := info_parts daystep_info
  have hmk : ∀ W : World, (Instr.makeSlice 57 (.int .i64 (l.length : Int)) (.int .i64 (l.length : Int))).run Try.prog W = .ok (.slice (some ⟨W.heap.size, 0, none⟩) l.length l.length) (W.alloc (.cells (madeCells _ (l.length * 2)) 50)) := fun W => by
    rcases run_make_rowN (P := Try.prog) 57 50 i0 _ Try.underlying57 hi0 hz0 l.length (by rw [hz2]; omega) W with h | h
    · rw [hz1] at h; exact h
    · rw [hz2] at h; cases h
  go_enter Try.func36, Try.ntmps36
  go_wp2_with fail
  go_loopw [4] (fun i wr => ∃ (k : Nat) (cs : Array Value), k ≤ l.length ∧ i = .int .i64 k ∧ Blk wr w.heap.size 50 cs ∧ cs.size = l.length * 2 ∧ Filled cs 2 StepR.row l k ∧ ∃ g, wr = plus w g) (fun i _ => l.length - (intOf i).toNat)
  case atStart => exact ⟨0, _, Nat.zero_le _, rfl, Blk.new _ _ _, size_madeCells _ _, Filled.zero _ _ _ _, by (repeat (first | with_reducible exact grew_refl _ | with_reducible assumption | with_reducible refine grew_split ?_ | with_reducible refine grew_mk ?_ | with_reducible refine grew_plus ?_ | with_reducible refine grew_alloc ?_ | with_reducible refine grew_drew ?_ | (with_reducible refine grew_set ?_ (by first | exact Nat.le_refl _ | omega | (simp [go_sem]; done) | (simp [go_sem]; omega)))))⟩
  case round =>
    obtain ⟨k, cs, hk, rfl, hB, hsz, hF, hg⟩ := hrel
    have hAr : Sl wr 2 StepR.row A l := hA.below (below_of_grew hg)
    have HG := hid hg
    have HS := hid hsz
    have HF := hid hF
    have HB := hid hB
    clear hg hF
    by_cases hlt : k < l.length
    · obtain ⟨b, off, rfl, hb, hc⟩ := hAr.at_ hlt
      obtain ⟨hc0, hc1⟩ := scells hc hlt
      have hG := hB.lt
      obtain ⟨⟨_, hz0⟩, ⟨_, hz1⟩, hf0, hf1⟩ := hB.some2 (k * 2) (by omega)
      clear hc hAr hA hB hsz
      go_wp2_with (go_at_call 32; refine (l_toDayStep l[k] _).mono ?_; (rintro e w' ⟨rfl, gx, rfl⟩))
      go_roundw
      case rel =>
        have h1 := HF.out.step hlt (fun _ _ => rfl) (by rw [HS.out]; omega)
        have h2 := (HB.out.put2 (k * 2) (.int .i64 l[k].kind) (.int .i64 l[k].value)).plus gx
        have HG := HG.out
        exact ⟨k + 1, _, by omega, by go_num, h2, by rw [size_put]; exact HS.out, h1, by (repeat (first | with_reducible exact grew_refl _ | with_reducible assumption | with_reducible refine grew_split ?_ | with_reducible refine grew_mk ?_ | with_reducible refine grew_plus ?_ | with_reducible refine grew_alloc ?_ | with_reducible refine grew_drew ?_ | (with_reducible refine grew_set ?_ (by first | exact Nat.le_refl _ | omega | (simp [go_sem]; done) | (simp [go_sem]; omega)))))⟩
      case measure => simp [intOf]; omega
    · obtain rfl : k = l.length := by omega
      clear hB hsz
      go_wp2
      go_ret
      exact ⟨⟨_, cs, rfl, Nat.le_refl _, HB.out, HS.out, HF.out⟩, HG.out⟩
set_option maxHeartbeats 1000000 in
theorem l_markDayStepS (B : Nat) (l : List StepR) (A : Option Addr) (c : Nat) (m : Int) (w : World) (hO : OwnF B 50 2 StepR.row w A l) (hl : l.length ≤ 1073741824) (h0 : 0 ≤ m) (h1 : m ≤ 1099511627776) :
    Calls Try.prog 39 #[.slice A l.length c, .int .i64 m] w fun e' w' => e' = .returned (.int .i64 (m + 2 * l.length)) ∧ OwnF B 50 2 StepR.row w' A (marksT m l.length) ∧ w.grownBy w' (rowOf A l) := by
  rcases OwnF.split hO with rfl | ⟨hpos, g, cs, rfl, hb, hB, hs, hF⟩
  · go_enter Try.func39, Try.ntmps39
    go_wp2_with fail
    go_loopw [1, 5] (fun q i wr => i = .int .i64 0 ∧ q = .int .i64 m ∧ w = wr) (fun _ _ _ => 0)
    case atStart => exact ⟨rfl, rfl, rfl⟩
    case round =>
      obtain ⟨rfl, rfl, rfl⟩ := hrel
      go_wp2
      go_ret
      exact ⟨ret_int (by simp), .inl (by simp [marksT]), grown_refl _ _⟩
  · have HB := hid hb
    clear hF hb
    go_enter Try.func39, Try.ntmps39
    go_wp2_with fail
    go_loopw [1, 5] (fun q i wr => ∃ (k : Nat) (cs : Array Value), k ≤ l.length ∧ i = .int .i64 k ∧ q = .int .i64 (m + 2 * k) ∧ Blk wr g 50 cs ∧ l.length * 2 ≤ cs.size ∧ Filled cs 2 StepR.row (marksT m l.length) k ∧ w.grownBy wr (some g)) (fun _ i _ => l.length - (intOf i).toNat)
    case atStart => exact ⟨0, _, Nat.zero_le _, rfl, by simp, hB, hs, Filled.zero _ _ _ _, grown_refl _ _⟩
    case round =>
      obtain ⟨k, cs, hk, rfl, rfl, hB, hs, hF, hg⟩ := hrel
      have HF := hid hF
      have HG := hid hg
      have HC := hid hB
      have HS := hid hs
      clear hF hg
      by_cases hlt : k < l.length
      · obtain ⟨⟨_, hz0⟩, ⟨_, hz1⟩, hf0, hf1⟩ := hB.some2 (k * 2) (by omega)
        clear hB hs
        go_wp2
        go_roundw
        case rel =>
          have h1 := HF.out.step (by rw [marksT_len]; exact hlt) (fun _ _ => rfl) (by rw [marksT_len]; exact HS.out)
          rw [marksT_get] at h1
          have h2 := HC.out.put2 (k * 2) (.int .i64 (m + 2 * k)) (.int .i64 (m + 2 * (k : Int) + 1))
          exact ⟨k + 1, _, by omega, by go_num, by go_num, h2, by rw [size_put]; exact HS.out, h1, grown_set (grown_set HG.out)⟩
        case measure => simp [intOf]; omega
      · obtain rfl : k = l.length := by omega
        clear hB hs
        go_wp2
        go_ret
        exact ⟨rfl, .inr ⟨g, cs, rfl, HB.out, HC.out, by rw [marksT_len]; exact HS.out, by rw [marksT_len]; exact HF.out⟩, by rw [rowOf_some hpos]; exact HG.out⟩
section
variable {H : Type} {enc : TypeId × Value → H} {w : World} {base : Nat} {spare : Nat → Bool} {held : Bool}
set_option maxRecDepth 100000 in
theorem read_daystep (n : Nat) (cs : List Value) (y : DataW H × List MemPlace) (h : DataW.trod enc Try.prog w base spare held n 48 cs = some y) : ∃ p : StepR, True ∧ cs = p.row := by
  obtain ⟨xs, m, _, _, hl, hx, hf⟩ := DataW.trod_struct Try.underlying48 h
  have hC : Try.prog.cellsOf 48 = 2 := by kernel_rfl
  match cs, hl.trans hC with
  | [c0, c1], _ =>
    obtain ⟨y0, h0⟩ := field_at hf hx 0 _ rfl 1 (by kernel_rfl)
    obtain ⟨y1, h1⟩ := field_at hf hx 1 _ rfl 1 (by kernel_rfl)
    obtain ⟨k, e0, _, _⟩ := DataW.trod_int Try.underlying3 h0
    obtain ⟨b, e1, _, _⟩ := DataW.trod_int Try.underlying3 h1
    simp at e0 e1
    subst e0 e1
    exact ⟨⟨k, b⟩, trivial, rfl⟩
end
set_option maxRecDepth 100000 in
theorem open_steps {H : Type} {enc : TypeId × Value → H} {w : World} {r : Reach} {b0 base : Nat} {spare : Nat → Bool} {held : Bool} {v : Value} {d : DataW H} {p : List MemPlace} (hv : Value.okWide Try.prog w r b0 53 v) (h : DataW.Trod enc Try.prog w base spare held 53 v d p) :
    ∃ (A : Option Addr) (c : Nat) (l : List StepR), v = .slice A l.length c ∧ Sl w 2 StepR.row A l ∧ l.length ≤ maxLen := by
  obtain ⟨a, n, c, rfl⟩ := okWide_slice Try.underlying53 hv
  obtain ⟨fuel, hf⟩ := h
  obtain ⟨A, c, l, e, hS, hl, hln⟩ := read_list StepR.row 2 (fun _ => True) Try.underlying53 (by kernel_rfl) (fun _ => ⟨_, rfl⟩) read_daystep hf
  simp only [Value.cells, List.cons.injEq, and_true] at e
  exact ⟨A, c, l, by simpa using e, hS, hln⟩
end Go.Proofs.Ytcmeiojfmpkkeaa
