/- The library's stable sort, over a short list of areas, with each of the package's orders. -/
import Derived.Test.YteogidghoohgaaaDoorAt
namespace Go.Proofs.YteogidghoohgaaaDoor
open Go.RowKit

attribute [local go_sem ↓] Go.wp_at_zero Go.wp_at_succ
theorem area_cells {w : World} {g : Nat} {t : TypeId} {cs : Array Value} {M : List AreaR} {j : Nat} {r : AreaR} (hB : Blk w g t cs) (hF : Filled cs 6 AreaR.row M M.length) (hj : j < M.length) (he : M[j] = r) :
    w.cell? ⟨g, j * 6, none⟩ = some (.string r.nm) ∧ w.cell? ⟨g, j * 6 + 1, none⟩ = some (.int .i64 r.cells) ∧ w.cell? ⟨g, j * 6 + 2, none⟩ = some (.int .i64 r.cov) ∧
    w.cell? ⟨g, j * 6 + 3, none⟩ = some (.int .i64 r.least) ∧ w.cell? ⟨g, j * 6 + 4, none⟩ = some (.int .i64 r.spread) ∧ w.cell? ⟨g, j * 6 + 5, none⟩ = some (.int .i64 r.minutes) := by
  have h := fun q u hu => (hB.cell (j * 6 + q)).trans (hF j hj hj q u hu)
  rw [he] at h
  exact ⟨h 0 _ rfl, h 1 _ rfl, h 2 _ rfl, h 3 _ rfl, h 4 _ rfl, h 5 _ rfl⟩
def SortPost (g : Nat) (cs : Array Value) (w : World) (R : List AreaR) (e : Ending) (w' : World) : Prop := e = .returned (.tuple #[]) ∧ (∃ cs', Blk w' g 40 cs' ∧ cs'.size = cs.size ∧ Filled cs' 6 AreaR.row R R.length) ∧ w.grownBy w' (some g)
set_option maxHeartbeats 4000000 in
set_option maxRecDepth 10000 in
theorem i_insDone (l : List AreaR) (g cap : Nat) (cs : Array Value) (w : World) (hB : Blk w g 40 cs) (hF : Filled cs 6 AreaR.row l l.length) (hs : l.length * 6 ≤ cs.size) (hl : l.length ≤ 10) (hok : ∀ r ∈ l, r.ok = true) :
    Calls Tryd.prog 84 #[.slice (some ⟨g, 0, none⟩) l.length cap, .int .i64 0, .int .i64 (l.length : Int), .func (.func 46) #[] #[]] w fun e w' => SortPost g cs w (insAll gtNo l) e w' := by
  have HOK := hid hok
  have HB0 := hid hB
  have HF0 := hid hF
  clear hok hB hF
  by_cases hshort : l.length ≤ 1
  · have HE := hid (sortSt_short (gt := gtNo) hshort)
    go_enter Tryd.func84, Tryd.ntmps84
    go_wp2_with fail
    go_loopw [8] (fun i wr => i = .int .i64 1 ∧ w = wr) (fun _ _ => 0)
    case atStart => exact ⟨rfl, rfl⟩
    case round =>
      obtain ⟨rfl, rfl⟩ := hrel
      have h1 : ¬ (1 : Int) < (l.length : Int) := by omega
      go_wp2
      go_end0
      exact ⟨rfl, ⟨cs, HB0.out, rfl, by rw [← HE.out]; exact HF0.out⟩, grown_refl _ _⟩
  have hn1 : 1 < l.length := by omega
  go_enter Tryd.func84, Tryd.ntmps84
  go_wp2_with fail
  go_loopw [8, 9] (fun i _ wr => ∃ (k : Nat) (cs2 : Array Value), 1 ≤ k ∧ k ≤ l.length ∧ i = .int .i64 k ∧ Blk wr g 40 cs2 ∧ cs2.size = cs.size ∧ Filled cs2 6 AreaR.row (sortSt gtNo l k) (sortSt gtNo l k).length ∧ w.grownBy wr (some g)) (fun i _ _ => l.length - (intOf i).toNat)
  case atStart => exact ⟨1, cs, Nat.le_refl _, by omega, rfl, HB0.out, rfl, by rw [sortSt_start]; exact HF0.out, grown_refl _ _⟩
  case round =>
    obtain ⟨k, cs2, hk1, hk, rfl, hB, hz, hF, hG⟩ := hrel
    have HB := hid hB
    have HZ := hid hz
    have HF := hid hF
    have HG := hid hG
    clear hB hz hF hG
    by_cases hlt : k < l.length
    · obtain ⟨P, hP⟩ : ∃ P, insAll gtNo (l.take k) = P := ⟨_, rfl⟩
      obtain ⟨x, hx⟩ : ∃ x, l[k] = x := ⟨_, rfl⟩
      obtain ⟨rest, hrest⟩ : ∃ rest, l.drop (k + 1) = rest := ⟨_, rfl⟩
      have hPl : P.length = k := by rw [← hP, insAll_len]; simp; omega
      have hrl : rest.length = l.length - (k + 1) := by rw [← hrest]; simp
      have hxo : x.ok = true := by rw [← hx]; exact HOK.out _ (List.getElem_mem hlt)
      have hPo : ∀ r ∈ P, r.ok = true := by rw [← hP]; intro r hr; exact HOK.out r (List.mem_of_mem_take (insAll_mem.1 hr))
      have hIn := sortSt_in (gt := gtNo) hlt
      have hNx := fun j => sortSt_next (gt := gtNo) (j := j) hlt
      rw [hP, hx, hrest] at hIn hNx
      have HIN := hid hIn
      have HNX := hid hNx
      have HPL := hid hPl
      have HRL := hid hrl
      have HXO := hid hxo
      have HPO := hid hPo
      clear hIn hNx hPl hrl hxo hPo hP hx hrest
      go_wp2_with fail
      go_loopw [9] (fun jj wr2 => ∃ (j : Nat) (cs3 : Array Value), j ≤ k ∧ jj = .int .i64 j ∧ slot gtNo P x j = slot gtNo P x k ∧ Blk wr2 g 40 cs3 ∧ cs3.size = cs.size ∧ Filled cs3 6 AreaR.row (inSt P x rest j) (inSt P x rest j).length ∧ w.grownBy wr2 (some g)) (fun jj _ => (intOf jj).toNat)
      case atStart => exact ⟨k, cs2, Nat.le_refl _, rfl, rfl, HB.out, HZ.out, by have h := HF.out; rw [HIN.out] at h; exact h, HG.out⟩
      case round =>
        obtain ⟨j, cs3, hj, rfl, hS, hB, hz, hF, hG⟩ := hrel
        have HS := hid hS
        have HB3 := hid hB
        have HZ3 := hid hz
        have HF3 := hid hF
        have HG3 := hid hG
        clear hS hB hz hF hG
        by_cases hj0 : j = 0
        · subst hj0
          go_wp2_with fail
          (refine wp_region_calm (by kernel_rfl) (by kernel_rfl) ?_; (repeat' (first | go_big_quiet_step (fail) | (refine wpQuiet_step (fun K hK => ?_); go_simp; go_ite <;> go_simp <;> (first | (refine hK _ ?_; clear hK K) | (apply Exists.intro; refine ⟨fun _ => ?_, hK _ ?_⟩; (fail); clear hK K))))); all_goals (refine wpQuiet_nil ?_; intro _ hw'; obtain ⟨gq, hw''⟩ := hw'; subst hw''))
          go_wp2_with fail
          go_roundw
          case rel => exact ⟨k + 1, cs3, by omega, by omega, by go_num, blk_grew HB3.out (by (repeat (first | with_reducible exact grew_refl _ | with_reducible assumption | with_reducible refine grew_split ?_ | with_reducible refine grew_mk ?_ | with_reducible refine grew_plus ?_ | with_reducible refine grew_alloc ?_ | with_reducible refine grew_drew ?_ | (with_reducible refine grew_set ?_ (by first | exact Nat.le_refl _ | omega | (simp [go_sem]; done) | (simp [go_sem]; omega)))))), HZ3.out, by rw [← HNX.out 0 (by rw [← HS.out]; rfl)]; exact HF3.out, grown_then HG3.out (by (repeat (first | with_reducible exact grew_refl _ | with_reducible assumption | with_reducible refine grew_split ?_ | with_reducible refine grew_mk ?_ | with_reducible refine grew_plus ?_ | with_reducible refine grew_alloc ?_ | with_reducible refine grew_drew ?_ | (with_reducible refine grew_set ?_ (by first | exact Nat.le_refl _ | omega | (simp [go_sem]; done) | (simp [go_sem]; omega))))))⟩
          case measure => simp [intOf]; omega
        · obtain ⟨q, rfl⟩ : ∃ q, j = q + 1 := ⟨j - 1, by omega⟩
          have hq : q < P.length := by have := HPL.out; omega
          have hMl : (inSt P x rest (q + 1)).length = l.length := by rw [inSt_len (by omega), HPL.out, HRL.out]; omega
          have ex := inSt_at (P := P) (x := x) (rest := rest) (j := q + 1) (by omega) (by rw [hMl]; omega)
          have ep := inSt_below (P := P) (x := x) (rest := rest) (j := q) hq (by rw [hMl]; omega)
          have hyo := HPO.out _ (List.getElem_mem hq)
          have hsw := inSt_swap (P := P) (x := x) (rest := rest) hq
          obtain ⟨hc0, hc1, hc2, hc3, hc4, hc5⟩ := area_cells HB3.out HF3.out (by rw [hMl]; omega) ex
          obtain ⟨hd0, hd1, hd2, hd3, hd4, hd5⟩ := area_cells HB3.out HF3.out (by rw [hMl]; omega) ep
          have hsd := fun h => slot_down (gt := gtNo) (x := x) hq h
          have hss := fun h => slot_stop (gt := gtNo) (x := x) hq h
          have hvg := noV_gt x P[q]
          generalize hy : P[q] = y at hyo ep hsw hd0 hd1 hd2 hd3 hd4 hd5 hsd hss hvg
          have HYO := hid hyo
          have HML := hid hMl
          have HSW := hid hsw
          have HSD := hid hsd
          have HSS := hid hss
          have hi0 : (0 : Int) ≤ (q : Int) := by omega
          have hi1 : (q : Int) < (l.length : Int) := by omega
          have hi2 : (q : Int) + 1 < (l.length : Int) := by omega
          have hgl := HB3.out.lt
          clear hyo ex ep hy hsw hMl hsd hss
          cases hgt : gtNo y x
          · have HGT := hid hgt
            rw [hgt] at hvg
            clear hgt
            go_wp2_with fail
            (refine wp_region_calm (by kernel_rfl) (by kernel_rfl) ?_; (repeat' (first | go_big_quiet_step ((go_at_call 46; exact calm_of (i_Done1 x y _ HXO.out HYO.out))) | (refine wpQuiet_step (fun K hK => ?_); go_simp; go_ite <;> go_simp <;> (first | (refine hK _ ?_; clear hK K) | (apply Exists.intro; refine ⟨fun _ => ?_, hK _ ?_⟩; ((go_at_call 46; exact calm_of (i_Done1 x y _ HXO.out HYO.out))); clear hK K))))); all_goals (refine wpQuiet_nil ?_; intro _ hw'; obtain ⟨gq, hw''⟩ := hw'; subst hw''))
            go_wp2_with fail
            go_roundw
            case rel => exact ⟨k + 1, cs3, by omega, by omega, by go_num, blk_grew HB3.out (by (repeat (first | with_reducible exact grew_refl _ | with_reducible assumption | with_reducible refine grew_split ?_ | with_reducible refine grew_mk ?_ | with_reducible refine grew_plus ?_ | with_reducible refine grew_alloc ?_ | with_reducible refine grew_drew ?_ | (with_reducible refine grew_set ?_ (by first | exact Nat.le_refl _ | omega | (simp [go_sem]; done) | (simp [go_sem]; omega)))))), HZ3.out, by rw [← HNX.out (q + 1) (by rw [← HS.out]; exact HSS.out HGT.out)]; exact HF3.out, grown_then HG3.out (by (repeat (first | with_reducible exact grew_refl _ | with_reducible assumption | with_reducible refine grew_split ?_ | with_reducible refine grew_mk ?_ | with_reducible refine grew_plus ?_ | with_reducible refine grew_alloc ?_ | with_reducible refine grew_drew ?_ | (with_reducible refine grew_set ?_ (by first | exact Nat.le_refl _ | omega | (simp [go_sem]; done) | (simp [go_sem]; omega))))))⟩
            case measure => simp [intOf]; omega
          · have HGT := hid hgt
            rw [hgt] at hvg
            clear hgt
            go_wp2_with fail
            (refine wp_region_calm (by kernel_rfl) (by kernel_rfl) ?_; (repeat' (first | go_big_quiet_step ((go_at_call 46; exact calm_of (i_Done1 x y _ HXO.out HYO.out))) | (refine wpQuiet_step (fun K hK => ?_); go_simp; go_ite <;> go_simp <;> (first | (refine hK _ ?_; clear hK K) | (apply Exists.intro; refine ⟨fun _ => ?_, hK _ ?_⟩; ((go_at_call 46; exact calm_of (i_Done1 x y _ HXO.out HYO.out))); clear hK K))))); all_goals (refine wpQuiet_nil ?_; intro _ hw'; obtain ⟨gq, hw''⟩ := hw'; subst hw''))
            go_wp2_with fail
            have f0 := fun o => HB3.out.frozen (q * 6 + o)
            have f1 := fun o => HB3.out.frozen ((q + 1) * 6 + o)
            have f00 := HB3.out.frozen (q * 6)
            have f10 := HB3.out.frozen ((q + 1) * 6)
            go_region
            all_goals
              go_wp2_with fail
              go_roundw
              case rel =>
                have h1 := HF3.out.set_ (i := q + 1) (r := y) (fun _ => rfl) (by rw [HML.out, HZ3.out]; exact hs)
                have h2 := h1.set_ (i := q) (r := x) (fun _ => rfl) (by rw [size_put, List.length_set, HML.out, HZ3.out]; exact hs)
                rw [HSW.out] at h2
                have h3 := (HB3.out.put6 ((q + 1) * 6) (.string y.nm) (.int .i64 y.cells) (.int .i64 y.cov) (.int .i64 y.least) (.int .i64 y.spread) (.int .i64 y.minutes)).put6 (q * 6) (.string x.nm) (.int .i64 x.cells) (.int .i64 x.cov) (.int .i64 x.least) (.int .i64 x.spread) (.int .i64 x.minutes)
                exact ⟨q, _, by omega, rfl, by rw [← HS.out]; exact (HSD.out HGT.out).symm, blk_grew h3 (by (repeat (first | with_reducible exact grew_refl _ | with_reducible assumption | with_reducible refine grew_split ?_ | with_reducible refine grew_mk ?_ | with_reducible refine grew_plus ?_ | with_reducible refine grew_alloc ?_ | with_reducible refine grew_drew ?_ | (with_reducible refine grew_set ?_ (by first | exact Nat.le_refl _ | omega | (simp [go_sem]; done) | (simp [go_sem]; omega)))))), by rw [size_put, size_put]; exact HZ3.out, h2, grown_then (grown_set (grown_set (grown_set (grown_set (grown_set (grown_set (grown_set (grown_set (grown_set (grown_set (grown_set (grown_set HG3.out)))))))))))) (by (repeat (first | with_reducible exact grew_refl _ | with_reducible assumption | with_reducible refine grew_split ?_ | with_reducible refine grew_mk ?_ | with_reducible refine grew_plus ?_ | with_reducible refine grew_alloc ?_ | with_reducible refine grew_drew ?_ | (with_reducible refine grew_set ?_ (by first | exact Nat.le_refl _ | omega | (simp [go_sem]; done) | (simp [go_sem]; omega))))))⟩
              case measure => first | (simp [intOf]; done) | (simp [intOf]; omega)
    · obtain rfl : k = l.length := by omega
      go_wp2_with fail
      go_end0
      exact ⟨rfl, ⟨cs2, HB.out, HZ.out, by have h := HF.out; rw [sortSt_end] at h; exact h⟩, HG.out⟩
set_option maxHeartbeats 4000000 in
set_option maxRecDepth 10000 in
theorem i_insWork (l : List AreaR) (g cap : Nat) (cs : Array Value) (w : World) (hB : Blk w g 40 cs) (hF : Filled cs 6 AreaR.row l l.length) (hs : l.length * 6 ≤ cs.size) (hl : l.length ≤ 10) (hok : ∀ r ∈ l, r.ok = true) :
    Calls Tryd.prog 84 #[.slice (some ⟨g, 0, none⟩) l.length cap, .int .i64 0, .int .i64 (l.length : Int), .func (.func 41) #[] #[]] w fun e w' => SortPost g cs w (insAll gtWo l) e w' := by
  have HOK := hid hok
  have HB0 := hid hB
  have HF0 := hid hF
  clear hok hB hF
  by_cases hshort : l.length ≤ 1
  · have HE := hid (sortSt_short (gt := gtWo) hshort)
    go_enter Tryd.func84, Tryd.ntmps84
    go_wp2_with fail
    go_loopw [8] (fun i wr => i = .int .i64 1 ∧ w = wr) (fun _ _ => 0)
    case atStart => exact ⟨rfl, rfl⟩
    case round =>
      obtain ⟨rfl, rfl⟩ := hrel
      have h1 : ¬ (1 : Int) < (l.length : Int) := by omega
      go_wp2
      go_end0
      exact ⟨rfl, ⟨cs, HB0.out, rfl, by rw [← HE.out]; exact HF0.out⟩, grown_refl _ _⟩
  have hn1 : 1 < l.length := by omega
  go_enter Tryd.func84, Tryd.ntmps84
  go_wp2_with fail
  go_loopw [8, 9] (fun i _ wr => ∃ (k : Nat) (cs2 : Array Value), 1 ≤ k ∧ k ≤ l.length ∧ i = .int .i64 k ∧ Blk wr g 40 cs2 ∧ cs2.size = cs.size ∧ Filled cs2 6 AreaR.row (sortSt gtWo l k) (sortSt gtWo l k).length ∧ w.grownBy wr (some g)) (fun i _ _ => l.length - (intOf i).toNat)
  case atStart => exact ⟨1, cs, Nat.le_refl _, by omega, rfl, HB0.out, rfl, by rw [sortSt_start]; exact HF0.out, grown_refl _ _⟩
  case round =>
    obtain ⟨k, cs2, hk1, hk, rfl, hB, hz, hF, hG⟩ := hrel
    have HB := hid hB
    have HZ := hid hz
    have HF := hid hF
    have HG := hid hG
    clear hB hz hF hG
    by_cases hlt : k < l.length
    · obtain ⟨P, hP⟩ : ∃ P, insAll gtWo (l.take k) = P := ⟨_, rfl⟩
      obtain ⟨x, hx⟩ : ∃ x, l[k] = x := ⟨_, rfl⟩
      obtain ⟨rest, hrest⟩ : ∃ rest, l.drop (k + 1) = rest := ⟨_, rfl⟩
      have hPl : P.length = k := by rw [← hP, insAll_len]; simp; omega
      have hrl : rest.length = l.length - (k + 1) := by rw [← hrest]; simp
      have hxo : x.ok = true := by rw [← hx]; exact HOK.out _ (List.getElem_mem hlt)
      have hPo : ∀ r ∈ P, r.ok = true := by rw [← hP]; intro r hr; exact HOK.out r (List.mem_of_mem_take (insAll_mem.1 hr))
      have hIn := sortSt_in (gt := gtWo) hlt
      have hNx := fun j => sortSt_next (gt := gtWo) (j := j) hlt
      rw [hP, hx, hrest] at hIn hNx
      have HIN := hid hIn
      have HNX := hid hNx
      have HPL := hid hPl
      have HRL := hid hrl
      have HXO := hid hxo
      have HPO := hid hPo
      clear hIn hNx hPl hrl hxo hPo hP hx hrest
      go_wp2_with fail
      go_loopw [9] (fun jj wr2 => ∃ (j : Nat) (cs3 : Array Value), j ≤ k ∧ jj = .int .i64 j ∧ slot gtWo P x j = slot gtWo P x k ∧ Blk wr2 g 40 cs3 ∧ cs3.size = cs.size ∧ Filled cs3 6 AreaR.row (inSt P x rest j) (inSt P x rest j).length ∧ w.grownBy wr2 (some g)) (fun jj _ => (intOf jj).toNat)
      case atStart => exact ⟨k, cs2, Nat.le_refl _, rfl, rfl, HB.out, HZ.out, by have h := HF.out; rw [HIN.out] at h; exact h, HG.out⟩
      case round =>
        obtain ⟨j, cs3, hj, rfl, hS, hB, hz, hF, hG⟩ := hrel
        have HS := hid hS
        have HB3 := hid hB
        have HZ3 := hid hz
        have HF3 := hid hF
        have HG3 := hid hG
        clear hS hB hz hF hG
        by_cases hj0 : j = 0
        · subst hj0
          go_wp2_with fail
          (refine wp_region_calm (by kernel_rfl) (by kernel_rfl) ?_; (repeat' (first | go_big_quiet_step (fail) | (refine wpQuiet_step (fun K hK => ?_); go_simp; go_ite <;> go_simp <;> (first | (refine hK _ ?_; clear hK K) | (apply Exists.intro; refine ⟨fun _ => ?_, hK _ ?_⟩; (fail); clear hK K))))); all_goals (refine wpQuiet_nil ?_; intro _ hw'; obtain ⟨gq, hw''⟩ := hw'; subst hw''))
          go_wp2_with fail
          go_roundw
          case rel => exact ⟨k + 1, cs3, by omega, by omega, by go_num, blk_grew HB3.out (by (repeat (first | with_reducible exact grew_refl _ | with_reducible assumption | with_reducible refine grew_split ?_ | with_reducible refine grew_mk ?_ | with_reducible refine grew_plus ?_ | with_reducible refine grew_alloc ?_ | with_reducible refine grew_drew ?_ | (with_reducible refine grew_set ?_ (by first | exact Nat.le_refl _ | omega | (simp [go_sem]; done) | (simp [go_sem]; omega)))))), HZ3.out, by rw [← HNX.out 0 (by rw [← HS.out]; rfl)]; exact HF3.out, grown_then HG3.out (by (repeat (first | with_reducible exact grew_refl _ | with_reducible assumption | with_reducible refine grew_split ?_ | with_reducible refine grew_mk ?_ | with_reducible refine grew_plus ?_ | with_reducible refine grew_alloc ?_ | with_reducible refine grew_drew ?_ | (with_reducible refine grew_set ?_ (by first | exact Nat.le_refl _ | omega | (simp [go_sem]; done) | (simp [go_sem]; omega))))))⟩
          case measure => simp [intOf]; omega
        · obtain ⟨q, rfl⟩ : ∃ q, j = q + 1 := ⟨j - 1, by omega⟩
          have hq : q < P.length := by have := HPL.out; omega
          have hMl : (inSt P x rest (q + 1)).length = l.length := by rw [inSt_len (by omega), HPL.out, HRL.out]; omega
          have ex := inSt_at (P := P) (x := x) (rest := rest) (j := q + 1) (by omega) (by rw [hMl]; omega)
          have ep := inSt_below (P := P) (x := x) (rest := rest) (j := q) hq (by rw [hMl]; omega)
          have hyo := HPO.out _ (List.getElem_mem hq)
          have hsw := inSt_swap (P := P) (x := x) (rest := rest) hq
          obtain ⟨hc0, hc1, hc2, hc3, hc4, hc5⟩ := area_cells HB3.out HF3.out (by rw [hMl]; omega) ex
          obtain ⟨hd0, hd1, hd2, hd3, hd4, hd5⟩ := area_cells HB3.out HF3.out (by rw [hMl]; omega) ep
          have hsd := fun h => slot_down (gt := gtWo) (x := x) hq h
          have hss := fun h => slot_stop (gt := gtWo) (x := x) hq h
          have hvg := woV_gt x P[q]
          generalize hy : P[q] = y at hyo ep hsw hd0 hd1 hd2 hd3 hd4 hd5 hsd hss hvg
          have HYO := hid hyo
          have HML := hid hMl
          have HSW := hid hsw
          have HSD := hid hsd
          have HSS := hid hss
          have hi0 : (0 : Int) ≤ (q : Int) := by omega
          have hi1 : (q : Int) < (l.length : Int) := by omega
          have hi2 : (q : Int) + 1 < (l.length : Int) := by omega
          have hgl := HB3.out.lt
          clear hyo ex ep hy hsw hMl hsd hss
          cases hgt : gtWo y x
          · have HGT := hid hgt
            rw [hgt] at hvg
            clear hgt
            go_wp2_with fail
            (refine wp_region_calm (by kernel_rfl) (by kernel_rfl) ?_; (repeat' (first | go_big_quiet_step ((go_at_call 41; exact calm_of (i_Work2 x y _ HXO.out HYO.out))) | (refine wpQuiet_step (fun K hK => ?_); go_simp; go_ite <;> go_simp <;> (first | (refine hK _ ?_; clear hK K) | (apply Exists.intro; refine ⟨fun _ => ?_, hK _ ?_⟩; ((go_at_call 41; exact calm_of (i_Work2 x y _ HXO.out HYO.out))); clear hK K))))); all_goals (refine wpQuiet_nil ?_; intro _ hw'; obtain ⟨gq, hw''⟩ := hw'; subst hw''))
            go_wp2_with fail
            go_roundw
            case rel => exact ⟨k + 1, cs3, by omega, by omega, by go_num, blk_grew HB3.out (by (repeat (first | with_reducible exact grew_refl _ | with_reducible assumption | with_reducible refine grew_split ?_ | with_reducible refine grew_mk ?_ | with_reducible refine grew_plus ?_ | with_reducible refine grew_alloc ?_ | with_reducible refine grew_drew ?_ | (with_reducible refine grew_set ?_ (by first | exact Nat.le_refl _ | omega | (simp [go_sem]; done) | (simp [go_sem]; omega)))))), HZ3.out, by rw [← HNX.out (q + 1) (by rw [← HS.out]; exact HSS.out HGT.out)]; exact HF3.out, grown_then HG3.out (by (repeat (first | with_reducible exact grew_refl _ | with_reducible assumption | with_reducible refine grew_split ?_ | with_reducible refine grew_mk ?_ | with_reducible refine grew_plus ?_ | with_reducible refine grew_alloc ?_ | with_reducible refine grew_drew ?_ | (with_reducible refine grew_set ?_ (by first | exact Nat.le_refl _ | omega | (simp [go_sem]; done) | (simp [go_sem]; omega))))))⟩
            case measure => simp [intOf]; omega
          · have HGT := hid hgt
            rw [hgt] at hvg
            clear hgt
            go_wp2_with fail
            (refine wp_region_calm (by kernel_rfl) (by kernel_rfl) ?_; (repeat' (first | go_big_quiet_step ((go_at_call 41; exact calm_of (i_Work2 x y _ HXO.out HYO.out))) | (refine wpQuiet_step (fun K hK => ?_); go_simp; go_ite <;> go_simp <;> (first | (refine hK _ ?_; clear hK K) | (apply Exists.intro; refine ⟨fun _ => ?_, hK _ ?_⟩; ((go_at_call 41; exact calm_of (i_Work2 x y _ HXO.out HYO.out))); clear hK K))))); all_goals (refine wpQuiet_nil ?_; intro _ hw'; obtain ⟨gq, hw''⟩ := hw'; subst hw''))
            go_wp2_with fail
            have f0 := fun o => HB3.out.frozen (q * 6 + o)
            have f1 := fun o => HB3.out.frozen ((q + 1) * 6 + o)
            have f00 := HB3.out.frozen (q * 6)
            have f10 := HB3.out.frozen ((q + 1) * 6)
            go_region
            all_goals
              go_wp2_with fail
              go_roundw
              case rel =>
                have h1 := HF3.out.set_ (i := q + 1) (r := y) (fun _ => rfl) (by rw [HML.out, HZ3.out]; exact hs)
                have h2 := h1.set_ (i := q) (r := x) (fun _ => rfl) (by rw [size_put, List.length_set, HML.out, HZ3.out]; exact hs)
                rw [HSW.out] at h2
                have h3 := (HB3.out.put6 ((q + 1) * 6) (.string y.nm) (.int .i64 y.cells) (.int .i64 y.cov) (.int .i64 y.least) (.int .i64 y.spread) (.int .i64 y.minutes)).put6 (q * 6) (.string x.nm) (.int .i64 x.cells) (.int .i64 x.cov) (.int .i64 x.least) (.int .i64 x.spread) (.int .i64 x.minutes)
                exact ⟨q, _, by omega, rfl, by rw [← HS.out]; exact (HSD.out HGT.out).symm, blk_grew h3 (by (repeat (first | with_reducible exact grew_refl _ | with_reducible assumption | with_reducible refine grew_split ?_ | with_reducible refine grew_mk ?_ | with_reducible refine grew_plus ?_ | with_reducible refine grew_alloc ?_ | with_reducible refine grew_drew ?_ | (with_reducible refine grew_set ?_ (by first | exact Nat.le_refl _ | omega | (simp [go_sem]; done) | (simp [go_sem]; omega)))))), by rw [size_put, size_put]; exact HZ3.out, h2, grown_then (grown_set (grown_set (grown_set (grown_set (grown_set (grown_set (grown_set (grown_set (grown_set (grown_set (grown_set (grown_set HG3.out)))))))))))) (by (repeat (first | with_reducible exact grew_refl _ | with_reducible assumption | with_reducible refine grew_split ?_ | with_reducible refine grew_mk ?_ | with_reducible refine grew_plus ?_ | with_reducible refine grew_alloc ?_ | with_reducible refine grew_drew ?_ | (with_reducible refine grew_set ?_ (by first | exact Nat.le_refl _ | omega | (simp [go_sem]; done) | (simp [go_sem]; omega))))))⟩
              case measure => first | (simp [intOf]; done) | (simp [intOf]; omega)
    · obtain rfl : k = l.length := by omega
      go_wp2_with fail
      go_end0
      exact ⟨rfl, ⟨cs2, HB.out, HZ.out, by have h := HF.out; rw [sortSt_end] at h; exact h⟩, HG.out⟩
set_option maxHeartbeats 2000000 in
theorem i_stDone_cmp (l : List AreaR) (g cap : Nat) (cs : Array Value) (w : World) (hB : Blk w g 40 cs) (hF : Filled cs 6 AreaR.row l l.length) (hs : l.length * 6 ≤ cs.size) (hl : l.length ≤ 10) (hok : ∀ r ∈ l, r.ok = true) :
    Calls Tryd.prog 76 #[.slice (some ⟨g, 0, none⟩) l.length cap, .int .i64 (l.length : Int), .func (.func 46) #[] #[]] w fun e w' => SortPost g cs w (insAll gtNo l) e w' := by
  have HOK := hid hok
  have HB0 := hid hB
  have HF0 := hid hF
  have h20 : ¬ (20 : Int) ≤ (l.length : Int) := by omega
  have h21 : ¬ (20 : Int) < (l.length : Int) := by omega
  clear hok hB hF
  go_enter Tryd.func76, Tryd.ntmps76
  go_wp2_with fail
  go_loopw [7, 8] (fun a b wr => a = .int .i64 0 ∧ b = .int .i64 20 ∧ w = wr) (fun _ _ _ => 0)
  case atStart => exact ⟨rfl, rfl, rfl⟩
  case round =>
    obtain ⟨rfl, rfl, rfl⟩ := hrel
    go_wp2_with fail
    refine (i_insDone l g cap cs w HB0.out HF0.out hs hl HOK.out).mono ?_
    rintro e w' ⟨rfl, hP⟩
    have HP := hid hP
    clear hP
    go_wp2_with fail
    go_loopw [6] (fun b wr => b = .int .i64 20 ∧ w' = wr) (fun _ _ => 0)
    case atStart => exact ⟨rfl, rfl⟩
    case round =>
      obtain ⟨rfl, rfl⟩ := hrel
      go_wp2_with fail
      go_end0
      exact ⟨rfl, HP.out⟩
set_option maxHeartbeats 2000000 in
theorem i_stDone (l : List AreaR) (g cap : Nat) (cs : Array Value) (w : World) (hB : Blk w g 40 cs) (hF : Filled cs 6 AreaR.row l l.length) (hs : l.length * 6 ≤ cs.size) (hl : l.length ≤ 10) (hok : ∀ r ∈ l, r.ok = true) :
    Calls Tryd.prog 61 #[.slice (some ⟨g, 0, none⟩) l.length cap, .func (.func 46) #[] #[]] w fun e w' => SortPost g cs w (insAll gtNo l) e w' := by
  have HOK := hid hok
  have HB0 := hid hB
  have HF0 := hid hF
  clear hok hB hF
  go_enter Tryd.func61, Tryd.ntmps61
  go_wp2_with fail
  refine (i_stDone_cmp l g cap cs w HB0.out HF0.out hs hl HOK.out).mono ?_
  rintro e w' ⟨rfl, hP⟩
  have HP := hid hP
  clear hP
  go_wp2_with fail
  go_end0
  exact ⟨rfl, HP.out⟩
set_option maxHeartbeats 2000000 in
theorem i_stWork_cmp (l : List AreaR) (g cap : Nat) (cs : Array Value) (w : World) (hB : Blk w g 40 cs) (hF : Filled cs 6 AreaR.row l l.length) (hs : l.length * 6 ≤ cs.size) (hl : l.length ≤ 10) (hok : ∀ r ∈ l, r.ok = true) :
    Calls Tryd.prog 76 #[.slice (some ⟨g, 0, none⟩) l.length cap, .int .i64 (l.length : Int), .func (.func 41) #[] #[]] w fun e w' => SortPost g cs w (insAll gtWo l) e w' := by
  have HOK := hid hok
  have HB0 := hid hB
  have HF0 := hid hF
  have h20 : ¬ (20 : Int) ≤ (l.length : Int) := by omega
  have h21 : ¬ (20 : Int) < (l.length : Int) := by omega
  clear hok hB hF
  go_enter Tryd.func76, Tryd.ntmps76
  go_wp2_with fail
  go_loopw [7, 8] (fun a b wr => a = .int .i64 0 ∧ b = .int .i64 20 ∧ w = wr) (fun _ _ _ => 0)
  case atStart => exact ⟨rfl, rfl, rfl⟩
  case round =>
    obtain ⟨rfl, rfl, rfl⟩ := hrel
    go_wp2_with fail
    refine (i_insWork l g cap cs w HB0.out HF0.out hs hl HOK.out).mono ?_
    rintro e w' ⟨rfl, hP⟩
    have HP := hid hP
    clear hP
    go_wp2_with fail
    go_loopw [6] (fun b wr => b = .int .i64 20 ∧ w' = wr) (fun _ _ => 0)
    case atStart => exact ⟨rfl, rfl⟩
    case round =>
      obtain ⟨rfl, rfl⟩ := hrel
      go_wp2_with fail
      go_end0
      exact ⟨rfl, HP.out⟩
set_option maxHeartbeats 2000000 in
theorem i_stWork (l : List AreaR) (g cap : Nat) (cs : Array Value) (w : World) (hB : Blk w g 40 cs) (hF : Filled cs 6 AreaR.row l l.length) (hs : l.length * 6 ≤ cs.size) (hl : l.length ≤ 10) (hok : ∀ r ∈ l, r.ok = true) :
    Calls Tryd.prog 61 #[.slice (some ⟨g, 0, none⟩) l.length cap, .func (.func 41) #[] #[]] w fun e w' => SortPost g cs w (insAll gtWo l) e w' := by
  have HOK := hid hok
  have HB0 := hid hB
  have HF0 := hid hF
  clear hok hB hF
  go_enter Tryd.func61, Tryd.ntmps61
  go_wp2_with fail
  refine (i_stWork_cmp l g cap cs w HB0.out HF0.out hs hl HOK.out).mono ?_
  rintro e w' ⟨rfl, hP⟩
  have HP := hid hP
  clear hP
  go_wp2_with fail
  go_end0
  exact ⟨rfl, HP.out⟩
end Go.Proofs.YteogidghoohgaaaDoor
