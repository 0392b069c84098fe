/- The law FnCrashRecovery: recovery after a crash returns all durable records and a first part of the pending ones. No condition beyond the row's own: the tables that strconv reads hold what they hold at the start. -/
import Derived.Test.YtfnbbmhhilffeaaDoorLogOpen
import Derived.Test.YtfnbbmhhilffeaaDoorDs
import Derived.Test.YtfnbbmhhilffeaaDoorGLb
import Derived.Test.YtfnbbmhhilffeaaDoorH5
import Derived.Test.YtfnbbmhhilffeaaDoorDr
namespace Go.Proofs.YtfnbbmhhilffeaaDoor
open Go.ChangeShapes Go.WideShapes Go.ChangeAt Go.RowKit Go.Deep Go.Joins
open Go.ChangeMaps (open_string shut_string)

set_option maxHeartbeats 400000 in
theorem l_vBig (A : Option Addr) (c n : Nat) (w : World) : Calls Tryd.prog 6 #[.slice A n c] w fun e w' => e = .returned (.bool (decide ((65536 : Int) < (n : Int)))) ∧ w = w' := by
  go_enter Tryd.func6, Tryd.ntmps6
  go_wp2
  go_ret
  exact ⟨rfl, rfl⟩
theorem crash_none {l : LogR} {k : Int} {torn : Bool} {s : ByteArray} (h : crashF l k torn = (s, false)) : s = ⟨#[]⟩ := by
  unfold crashF at h
  split at h
  · injection h with _ h2
    cases h2
  · injection h with h1 _
    exact h1.symm
theorem crash_back {l : LogR} {k : Int} {torn : Bool} {s : ByteArray} (h : crashF l k torn = (s, true)) :
    ∃ (E : Nat) (n : Int) (q : List RecR), s.size ≤ 30000 ∧ l.d.size ≤ E ∧ E ≤ s.size ∧ recovF s = (⟨s.extract 0 E, ⟨#[]⟩, n⟩, (E : Int), true) ∧ LogR.ok ⟨s.extract 0 E, ⟨#[]⟩, n⟩ = true ∧ lrF l = lrF ⟨s.extract 0 E, ⟨#[]⟩, n⟩ ++ q ∧ l.ok = true := by
  have hc := crash_law (l := l) (k := k) (torn := torn) (by rw [h])
  rw [h] at hc
  obtain ⟨h1, h2, h3, h4, r, h5⟩ := hc
  simp only at h2 h3 h4 h5
  have ho := (recov_ok h2).1
  have hF : recovF s = (⟨s.extract 0 (endOf (opensF (bl s))), ⟨#[]⟩, (opensF (bl s)).length⟩, (endOf (opensF (bl s)) : Int), true) := by
    unfold recovF
    rw [if_neg (by omega)]
  rw [hF] at ho
  simp only at ho
  have hr : LogR.recs ⟨s.extract 0 (endOf (opensF (bl s))), ⟨#[]⟩, (opensF (bl s)).length⟩ = opensF (bl s) := by
    have hb : bl (s.extract 0 (endOf (opensF (bl s)))) = (bl s).take (endOf (opensF (bl s))) := by
      rw [bl_extract]; simp
    unfold LogR.recs
    simp only [bl_app]
    rw [hb]
    show opensF (_ ++ []) = _
    rw [List.append_nil, opensF_part]
  refine ⟨_, _, r.map (·.1), h2, h3, h4, hF, ho, ?_, h1⟩
  rw [lrF_recs h1, lrF_recs ho, hr, h5, List.map_append]
set_option maxHeartbeats 8000000 in
set_option maxRecDepth 100000 in
theorem l_FnCrashRecovery (A : Option Addr) (c : Nat) (bs : List Int) (w : World) (hA : Sl w 1 byteRow A bs) (hb : ∀ x ∈ bs, 0 ≤ x ∧ x ≤ 255) (_hl : bs.length ≤ maxLen) (hE : Env w) :
    Calls Tryd.prog 5 #[.slice A bs.length c] w fun e' w' => e' = .returned (.bool true) ∧ ∃ g, w' = plus w g := by
  have HA := hid hA
  have HB := hid hb
  have HE := hid hE
  clear hA hb hE
  by_cases hbig : (65536 : Int) < (bs.length : Int)
  · go_enter Tryd.func5, Tryd.ntmps5
    go_wp2_with (go_at_call 6; refine (l_vBig _ _ _ _).mono ?_; (rintro e w' ⟨rfl, rfl⟩))
    go_ret
    exact ⟨rfl, by (repeat (first | with_reducible exact grew_refl _ | with_reducible assumption | with_reducible refine grew_split ?_ | with_reducible refine grew_mk ?_ | with_reducible refine grew_plus ?_ | with_reducible refine grew_alloc ?_ | with_reducible refine grew_drew ?_ | (with_reducible refine grew_set ?_ (by first | exact Nat.le_refl _ | omega | (simp [go_sem]; done) | (simp [go_sem]; omega)))))⟩
  have HC := hid (show Code0 w A bs from ⟨HA.out, HB.out, by omega⟩)
  go_enter Tryd.func5, Tryd.ntmps5
  go_wp2_with (go_at_call 6; refine (l_vBig _ _ _ _).mono ?_; (rintro e w' ⟨rfl, rfl⟩))
  refine (s_DrawCrash A c bs _ HC.out HE.out).mono ?_
  rintro e W1 ⟨⟨l, k, torn, rfl, hL, k0, k1⟩, hg⟩
  have HG := hid hg
  have HE1 := hid (HE.out.grew hg)
  obtain ⟨z1, z2, z3⟩ := hL
  clear hg HB HA HC
  obtain ⟨s, ok, hs⟩ : ∃ s ok, crashF l k torn = (s, ok) := ⟨_, _, rfl⟩
  have HS := hid hs
  clear hs
  have e1 : (s.toList == s.toList) = true := by simp
  have e2 : (ok != ok) = false := by simp
  go_wp2_with fail
  refine (i_CrashLog l k torn _ (by omega) (by omega) (HE1.out.grew (by (repeat (first | with_reducible exact grew_refl _ | with_reducible assumption | with_reducible refine grew_split ?_ | with_reducible refine grew_mk ?_ | with_reducible refine grew_plus ?_ | with_reducible refine grew_alloc ?_ | with_reducible refine grew_drew ?_ | (with_reducible refine grew_set ?_ (by first | exact Nat.le_refl _ | omega | (simp [go_sem]; done) | (simp [go_sem]; omega)))))))).mono ?_
  rw [HS.out]
  rintro e w' ⟨rfl, g1, rfl⟩
  go_wp2_with fail
  refine (s_CrashLog l k torn _ (by omega) (by omega) (HE1.out.grew (by (repeat (first | with_reducible exact grew_refl _ | with_reducible assumption | with_reducible refine grew_split ?_ | with_reducible refine grew_mk ?_ | with_reducible refine grew_plus ?_ | with_reducible refine grew_alloc ?_ | with_reducible refine grew_drew ?_ | (with_reducible refine grew_set ?_ (by first | exact Nat.le_refl _ | omega | (simp [go_sem]; done) | (simp [go_sem]; omega)))))))).mono ?_
  rw [HS.out]
  rintro e w' ⟨rfl, g2, rfl⟩
  cases ok with
  | false =>
    obtain rfl := crash_none HS.out
    go_wp2_with fail
    go_ret
    have hg := HG.out
    exact ⟨rfl, by (repeat (first | with_reducible exact grew_refl _ | with_reducible assumption | with_reducible refine grew_split ?_ | with_reducible refine grew_mk ?_ | with_reducible refine grew_plus ?_ | with_reducible refine grew_alloc ?_ | with_reducible refine grew_drew ?_ | (with_reducible refine grew_set ?_ (by first | exact Nat.le_refl _ | omega | (simp [go_sem]; done) | (simp [go_sem]; omega)))))⟩
  | true =>
    obtain ⟨E, n, q, y1, y2, y3, y4, y5, y6, y7⟩ := crash_back HS.out
    obtain ⟨d, hd⟩ : ∃ d, s.extract 0 E = d := ⟨_, rfl⟩
    have hdz : d.size ≤ 30000 := by rw [← hd]; simp; omega
    rw [hd] at y4 y5 y6
    obtain ⟨R, hR⟩ : ∃ R, lrF ⟨d, ⟨#[]⟩, n⟩ = R := ⟨_, rfl⟩
    rw [hR] at y6
    have HD := hid hd
    have HR := hid hR
    have H4 := hid y4
    have H5 := hid y5
    have H6 := hid y6
    have H7 := hid y7
    have hRl := lrF_len ⟨d, ⟨#[]⟩, n⟩
    rw [hR] at hRl
    have hlen : (R ++ q).length = R.length + q.length := by simp
    have HLEN := hid hlen
    have hz0 : (0 : Int) ≤ E := by omega
    have hz1 : (E : Int) ≤ (s.size : Int) := by omega
    have hz2 : (l.d.size : Int) ≤ (E : Int) := by omega
    have hz3 : (R.length : Int) ≤ (R.length : Int) + (q.length : Int) := by omega
    clear hd hR y4 y5 y6 y7 hlen
    go_wp2_with fail
    refine (i_RecoverLog s _ (by omega) (HE1.out.grew (by (repeat (first | with_reducible exact grew_refl _ | with_reducible assumption | with_reducible refine grew_split ?_ | with_reducible refine grew_mk ?_ | with_reducible refine grew_plus ?_ | with_reducible refine grew_alloc ?_ | with_reducible refine grew_drew ?_ | (with_reducible refine grew_set ?_ (by first | exact Nat.le_refl _ | omega | (simp [go_sem]; done) | (simp [go_sem]; omega)))))))).mono ?_
    rw [H4.out]
    rintro e w' ⟨rfl, g3, rfl⟩
    go_wp2_with fail
    refine (i_LogRecords ⟨d, ⟨#[]⟩, n⟩ _ (by simp only; omega) (Nat.zero_le _) (HE1.out.grew (by (repeat (first | with_reducible exact grew_refl _ | with_reducible assumption | with_reducible refine grew_split ?_ | with_reducible refine grew_mk ?_ | with_reducible refine grew_plus ?_ | with_reducible refine grew_alloc ?_ | with_reducible refine grew_drew ?_ | (with_reducible refine grew_set ?_ (by first | exact Nat.le_refl _ | omega | (simp [go_sem]; done) | (simp [go_sem]; omega)))))))).mono ?_
    rw [HR.out, H5.out]
    rintro e w' ⟨⟨A1, c1, rfl, hO1⟩, g4, rfl⟩
    (try rw [plus_plus] at hO1)
    have O1 := hid hO1.sl
    clear hO1
    go_wp2_with fail
    refine (s_LogRecords l _ (by omega) (by omega) (HE1.out.grew (by (repeat (first | with_reducible exact grew_refl _ | with_reducible assumption | with_reducible refine grew_split ?_ | with_reducible refine grew_mk ?_ | with_reducible refine grew_plus ?_ | with_reducible refine grew_alloc ?_ | with_reducible refine grew_drew ?_ | (with_reducible refine grew_set ?_ (by first | exact Nat.le_refl _ | omega | (simp [go_sem]; done) | (simp [go_sem]; omega)))))))).mono ?_
    rw [H6.out, H7.out, HLEN.out]
    rintro e w' ⟨⟨A2, c2, rfl, hO2⟩, g5, rfl⟩
    (try rw [plus_plus] at hO2)
    have O2 := hid hO2.sl
    clear hO2
    go_upto_region 15 with fail
    generalize hb10 : W1.heap.size + 1 + ((g1.add g2).add g3).objs.size = b10
    refine opq_wp (fun W3 => Blk W3 b10 25 #[.string d, .string ⟨#[]⟩, .int .i64 n] ∧ Sl W3 2 RecR.row A1 R ∧ Sl W3 2 RecR.row A2 (R ++ q) ∧ ∃ g, W3 = plus w g) ⟨blk_grew (blk_new (w := plus (W1.alloc _) ((g1.add g2).add g3)) (by subst hb10; simp [go_sem])) (by (repeat (first | with_reducible exact grew_refl _ | with_reducible assumption | with_reducible refine grew_split ?_ | with_reducible refine grew_mk ?_ | with_reducible refine grew_plus ?_ | with_reducible refine grew_alloc ?_ | with_reducible refine grew_drew ?_ | (with_reducible refine grew_set ?_ (by first | exact Nat.le_refl _ | omega | (simp [go_sem]; done) | (simp [go_sem]; omega)))))), O1.out.grew (by (repeat (first | with_reducible exact grew_refl _ | with_reducible assumption | with_reducible refine grew_split ?_ | with_reducible refine grew_mk ?_ | with_reducible refine grew_plus ?_ | with_reducible refine grew_alloc ?_ | with_reducible refine grew_drew ?_ | (with_reducible refine grew_set ?_ (by first | exact Nat.le_refl _ | omega | (simp [go_sem]; done) | (simp [go_sem]; omega)))))), O2.out.grew (by (repeat (first | with_reducible exact grew_refl _ | with_reducible assumption | with_reducible refine grew_split ?_ | with_reducible refine grew_mk ?_ | with_reducible refine grew_plus ?_ | with_reducible refine grew_alloc ?_ | with_reducible refine grew_drew ?_ | (with_reducible refine grew_set ?_ (by first | exact Nat.le_refl _ | omega | (simp [go_sem]; done) | (simp [go_sem]; omega)))))), by have hg := HG.out; (repeat (first | with_reducible exact grew_refl _ | with_reducible assumption | with_reducible refine grew_split ?_ | with_reducible refine grew_mk ?_ | with_reducible refine grew_plus ?_ | with_reducible refine grew_alloc ?_ | with_reducible refine grew_drew ?_ | (with_reducible refine grew_set ?_ (by first | exact Nat.le_refl _ | omega | (simp [go_sem]; done) | (simp [go_sem]; omega)))))⟩ ?_
    clear hb10 O1 O2
    rintro W3 ⟨hB, hO1, hO2, hg3⟩
    have hl10 := hB.lt
    (have hc0 := hB.cell 0; have hc1 := hB.cell 1; have hc2 := hB.cell 2; simp [go_sem] at hc0 hc1 hc2)
    have O1 := hid hO1
    have O2 := hid hO2
    have HG3 := hid hg3
    have HE3 := hid (HE.out.grew hg3)
    clear hB hO1 hO2 hg3 HE1 HG
    go_wp2_with fail
    go_loopw [17] (fun i wr => ∃ k : Nat, k ≤ R.length ∧ i = .int .i64 k ∧ ∃ g, wr = plus W3 g) (fun i _ => R.length - (intOf i).toNat)
    case atStart => exact ⟨0, Nat.zero_le _, rfl, by (repeat (first | with_reducible exact grew_refl _ | with_reducible assumption | with_reducible refine grew_split ?_ | with_reducible refine grew_mk ?_ | with_reducible refine grew_plus ?_ | with_reducible refine grew_alloc ?_ | with_reducible refine grew_drew ?_ | (with_reducible refine grew_set ?_ (by first | exact Nat.le_refl _ | omega | (simp [go_sem]; done) | (simp [go_sem]; omega)))))⟩
    case round =>
      obtain ⟨k, hk, rfl, gq, rfl⟩ := hrel
      by_cases hlt : k < R.length
      · obtain ⟨b, off, rfl, hb, hx⟩ := O1.out.at_ (k := k) hlt
        obtain ⟨b', off', rfl, hb', hx'⟩ := O2.out.at_ (k := k) (by simp; omega)
        have hy := rcells hx hlt
        have hy' := rcells hx' (k := k) (by simp; omega)
        rw [List.getElem_append_left hlt] at hy'
        obtain ⟨y0, y1⟩ := hy
        obtain ⟨y2, y3⟩ := hy'
        generalize R[k] = x at y0 y1 y2 y3
        have e1 : (x.c.toList == x.c.toList) = true := by simp
        have e2 : (x.r.toList == x.r.toList) = true := by simp
        have hk0 : (0 : Int) ≤ (k : Int) := by omega
        have hk1 : (k : Int) < (R.length : Int) := by omega
        have hk2 : (k : Int) < (R.length : Int) + (q.length : Int) := by omega
        clear hx hx'
        go_wp2_with fail
        (refine wp_region_calm (by kernel_rfl) (by kernel_rfl) ?_; (repeat' (first | go_big_quiet_step (fail) | (refine wpQuiet_step (fun K hK => ?_); go_simp; go_ite <;> go_simp <;> (first | (refine hK _ ?_; clear hK K) | (apply Exists.intro; refine ⟨fun _ => ?_, hK _ ?_⟩; (fail); clear hK K))))); all_goals (refine wpQuiet_nil ?_; intro _ hw'; obtain ⟨gq, hw''⟩ := hw'; subst hw''))
        go_wp2_with fail
        go_roundw
        case rel => exact ⟨k + 1, by omega, by go_num, by (repeat (first | with_reducible exact grew_refl _ | with_reducible assumption | with_reducible refine grew_split ?_ | with_reducible refine grew_mk ?_ | with_reducible refine grew_plus ?_ | with_reducible refine grew_alloc ?_ | with_reducible refine grew_drew ?_ | (with_reducible refine grew_set ?_ (by first | exact Nat.le_refl _ | omega | (simp [go_sem]; done) | (simp [go_sem]; omega)))))⟩
        case measure => simp [intOf]; omega
      · obtain rfl : k = R.length := by omega
        have es : s.extract 0 E = d := HD.out
        have e3 : (d.toList == d.toList) = true := by simp
        go_wp2_with fail
        (refine wp_region_calm (by kernel_rfl) (by kernel_rfl) ?_; (repeat' (first | go_big_quiet_step ((go_at_call 10; first | exact calm_of (i_IsValidLog ⟨d, ⟨#[]⟩, n⟩ _ H5.out _ (by simp only; omega) (Nat.zero_le _) (HE3.out.grew (by (repeat (first | with_reducible exact grew_refl _ | with_reducible assumption | with_reducible refine grew_split ?_ | with_reducible refine grew_mk ?_ | with_reducible refine grew_plus ?_ | with_reducible refine grew_alloc ?_ | with_reducible refine grew_drew ?_ | (with_reducible refine grew_set ?_ (by first | exact Nat.le_refl _ | omega | (simp [go_sem]; done) | (simp [go_sem]; omega)))))))) | exact calm_add (i_IsValidLog ⟨d, ⟨#[]⟩, n⟩ _ H5.out _ (by simp only; omega) (Nat.zero_le _) (HE3.out.grew (by (repeat (first | with_reducible exact grew_refl _ | with_reducible assumption | with_reducible refine grew_split ?_ | with_reducible refine grew_mk ?_ | with_reducible refine grew_plus ?_ | with_reducible refine grew_alloc ?_ | with_reducible refine grew_drew ?_ | (with_reducible refine grew_set ?_ (by first | exact Nat.le_refl _ | omega | (simp [go_sem]; done) | (simp [go_sem]; omega)))))))))) | (refine wpQuiet_step (fun K hK => ?_); go_simp; go_ite <;> go_simp <;> (first | (refine hK _ ?_; clear hK K) | (apply Exists.intro; refine ⟨fun _ => ?_, hK _ ?_⟩; ((go_at_call 10; first | exact calm_of (i_IsValidLog ⟨d, ⟨#[]⟩, n⟩ _ H5.out _ (by simp only; omega) (Nat.zero_le _) (HE3.out.grew (by (repeat (first | with_reducible exact grew_refl _ | with_reducible assumption | with_reducible refine grew_split ?_ | with_reducible refine grew_mk ?_ | with_reducible refine grew_plus ?_ | with_reducible refine grew_alloc ?_ | with_reducible refine grew_drew ?_ | (with_reducible refine grew_set ?_ (by first | exact Nat.le_refl _ | omega | (simp [go_sem]; done) | (simp [go_sem]; omega)))))))) | exact calm_add (i_IsValidLog ⟨d, ⟨#[]⟩, n⟩ _ H5.out _ (by simp only; omega) (Nat.zero_le _) (HE3.out.grew (by (repeat (first | with_reducible exact grew_refl _ | with_reducible assumption | with_reducible refine grew_split ?_ | with_reducible refine grew_mk ?_ | with_reducible refine grew_plus ?_ | with_reducible refine grew_alloc ?_ | with_reducible refine grew_drew ?_ | (with_reducible refine grew_set ?_ (by first | exact Nat.le_refl _ | omega | (simp [go_sem]; done) | (simp [go_sem]; omega)))))))))); clear hK K))))); all_goals (refine wpQuiet_nil ?_; intro _ hw'; obtain ⟨gq, hw''⟩ := hw'; subst hw''))
        go_wp2_with fail
        go_ret
        have hg := HG3.out
        exact ⟨rfl, by (repeat (first | with_reducible exact grew_refl _ | with_reducible assumption | with_reducible refine grew_split ?_ | with_reducible refine grew_mk ?_ | with_reducible refine grew_plus ?_ | with_reducible refine grew_alloc ?_ | with_reducible refine grew_drew ?_ | (with_reducible refine grew_set ?_ (by first | exact Nat.le_refl _ | omega | (simp [go_sem]; done) | (simp [go_sem]; omega)))))⟩
theorem fnCrashRecovery_met (os : Os) : laidMet Tryd.prog Rows.fnCrashRecoveryRow.laid ((laidWorld os).forCall (fun _ _ => 0) ⟨#[], #[.slice none 0 0], []⟩).memory :=
  laidMet_of_run' 8 (by kernel_rfl) (by kernel_rfl)
theorem fnCrashRecovery_reads (os : Os) {H : Type} (enc : TypeId × Value → H) : ∃ places, DataW.whole enc Tryd.prog ((laidWorld os).forCall (fun _ _ => 0) ⟨#[], #[.slice none 0 0], []⟩).memory Tryd.f5.params.toList Rows.fnCrashRecoverySpec.vars false (#[.slice none 0 0] : Array Value).toList 8 = some ([.nil], [], places) :=
  ⟨[], by kernel_rfl⟩
set_option maxRecDepth 100000 in
theorem fnCrashRecovery_contract (H : Type) (enc : TypeId × Value → H) (W : World) (base : Nat) (args : Array Value) (ds gs : List (DataW H)) (before : List MemPlace)
    (hval0 : ∀ (j : Nat) t v, Tryd.f5.params[j]? = some t → args[j]? = some v → Value.okWide Tryd.prog W .any base t v)
    (hW : DataW.Whole enc Tryd.prog Tryd.f5.params.toList Rows.fnCrashRecoverySpec.vars false W args.toList ds gs before) (hL : laidMetH Tryd.prog Rows.fnCrashRecoveryRow.laid W) (_hsh : W.ShapedOpen Tryd.prog) :
    Calls Tryd.prog 5 args W fun e W' => ∃ v, e = .returned v ∧ Rows.fnCrashRecoverySpec.post enc Tryd.prog Tryd.f5 false true false false W args v W' := by
  have hT : Tab W := tab_of hL
  have hval := hval0
  have hW' := hW
  obtain ⟨p, q, hA0, hV, rfl, hfz, hnd⟩ := hW
  have hA : DataW.TrodAll enc Tryd.prog W 0 (fun _ => true) true Tryd.f5.params.toList args.toList ds p := hA0
  rw [Tryd.params5] at hA hval
  obtain ⟨v0, vs0, d0, ds0, p0, q0, hargs, rfl, rfl, h0, r0⟩ := trodAll_cons hA
  obtain ⟨rfl, rfl, rfl⟩ := trodAll_nil r0
  obtain rfl : args = #[v0] := by cases args; simp_all
  obtain ⟨rfl, rfl⟩ := trodVars_none hV
  have k0 := h0
  have lt0 : ∀ x ∈ p0, x.block < W.heap.size := by obtain ⟨m, hm⟩ := k0; exact DataW.trod_lt m _ _ _ hm
  obtain ⟨A, c, l, rfl, hS, hb, hl⟩ := open_code (hval 0 22 v0 rfl rfl) h0
  clear hA0 hval0
  refine (l_FnCrashRecovery A c l W hS hb hl (env_of hT _hsh)).mono fun e W' ⟨he, hg⟩ => ?_
  have bel := below_of_grew hg
  subst he
  exact ⟨_, rfl, _, _, _, [], _, [], hW', trodAll_mk1 (shut_bool Tryd.underlying4 _), (trodAll_cons_mk (Below.trod laid_out (by kernel_rfl) (of_decide_eq_true (by kernel_rfl)) k0 bel lt0) trodAll_mk0), rfl, bel.frame _, fun h => by cases h⟩
set_option maxRecDepth 100000 in
theorem fnCrashRecovery_lifted (os : Os) (started : os.Started) (H : Type) (enc : TypeId × Value → H) (F : Stop.Interp) :
    ReturnsInHanded {} Tryd.checked os 5 .any ((OpenSpec.ofChange Rows.fnCrashRecoverySpec).preRow enc Tryd.prog Tryd.f5 Rows.fnCrashRecoveryRow.domain false Rows.fnCrashRecoveryRow.laid) (((OpenSpec.ofChange Rows.fnCrashRecoverySpec).at F).post enc Tryd.prog Tryd.f5 false true false false) := by
  obtain ⟨places, hx⟩ := fnCrashRecovery_reads os enc
  refine returnsInHanded_of_row (C := Tryd.checked) (s := OpenSpec.ofChange Rows.fnCrashRecoverySpec) own_knob started (by kernel_rfl) Tryd.func5
    (witness_row_at (enc := enc) (C := Tryd.checked) false (laidWorld os) #[.slice none 0 0] rfl (by kernel_rfl) (by kernel_rfl) (by kernel_rfl)
      (OpenSpec.preRow_of_cond 8 hx (by kernel_rfl) (fun k hk => by cases hk) (by kernel_rfl) (fnCrashRecovery_met os))) ?_
  intro W base args ds gs before hval hW _ _ _ hL hsh _
  exact fnCrashRecovery_contract H enc W base args ds gs before hval hW hL hsh
theorem fnCrashRecovery_said : Rows.FnCrashRecoverySaid :=
  OpenClaim.holds_of_cond 5 Tryd.f5 rfl rfl rfl rfl rfl rfl rfl ⟨rfl, rfl, rfl, rfl, rfl⟩ rfl rfl rfl rfl rfl (by kernel_rfl) Tryd.func5 (by kernel_rfl)
    (of_decide_eq_true (by kernel_rfl)) (by unfold Func.isWrapper; first | (rw [if_pos (by decide +kernel)]; kernel_rfl) | (rw [if_neg (by decide +kernel)]; exact ⟨rfl, rfl⟩))
    (fun os started H enc _ F => by rw [OpenClaim.pre_eq_preRow]; exact fnCrashRecovery_lifted os started H enc F)
theorem fnCrashRecovery_plain (f : FuncId) (fn : Func) (hf : Tryd.pinned.checked.prog.funcNamed Rows.fnCrashRecoveryRow.func = some f) (hfn : Tryd.pinned.checked.prog.funcs[f]? = some fn) :
    ∀ (j : Nat) t, fn.params[j]? = some t → Tryd.pinned.checked.prog.wantsStandIn t = false := by
  obtain rfl : f = 5 := Option.some.inj ((show Tryd.prog.funcNamed Rows.fnCrashRecoveryRow.func = some 5 by kernel_rfl).symm.trans hf) |>.symm
  obtain rfl : fn = Tryd.f5 := (Option.some.inj (Tryd.func5.symm.trans hfn)).symm
  intro j t ht
  have h : ∀ t ∈ Tryd.f5.params.toList, Tryd.prog.wantsStandIn t = false := by rw [Tryd.params5]; intro t ht; simp at ht; rcases ht with rfl <;> kernel_rfl
  exact h t (by simpa using Array.mem_of_getElem? ht)
theorem fnCrashRecovery_holds : Rows.FnCrashRecoveryCardSaid :=
  Claim7.holds_tied_plain_at .later [] _ _ _ _ fnCrashRecovery_said (fun _ h => by cases h) (by kernel_rfl) (fun _ h => by cases h) fnCrashRecovery_row_tie rfl ⟨rfl, rfl⟩ (by kernel_rfl) rfl (fun f fn hf hfn => ⟨by kernel_rfl, fnCrashRecovery_plain f fn hf hfn⟩) (by kernel_rfl)
end Go.Proofs.YtfnbbmhhilffeaaDoor
