/- The law FnLog: an appended record follows the existing ones unchanged, and recovery of the log's bytes returns the synchronized log. No condition beyond the row's own: the tables that strconv reads hold what they hold at the start. -/
import Derived.Test.YtfnbbmhhilffeaaDoorLogOpen
import Derived.Test.YtfnbbmhhilffeaaDoorDr
import Derived.Test.YtfnbbmhhilffeaaDoorGLb
import Derived.Test.YtfnbbmhhilffeaaDoorH5
namespace Go.Proofs.YtfnbbmhhilffeaaDoor
open Go.ChangeShapes Go.WideShapes Go.ChangeAt Go.RowKit Go.Deep Go.Joins
open Go.ChangeMaps (open_string shut_string)

set_option maxHeartbeats 400000 in
theorem l_vBig (A : Option Addr) (c n : Nat) (w : World) : Calls Tryd.prog 6 #[.slice A n c] w fun e w' => e = .returned (.bool (decide ((65536 : Int) < (n : Int)))) ∧ w = w' := by
  go_enter Tryd.func6, Tryd.ntmps6
  go_wp2
  go_ret
  exact ⟨rfl, rfl⟩
set_option maxHeartbeats 8000000 in
set_option maxRecDepth 100000 in
theorem l_FnLog (A : Option Addr) (c : Nat) (bs : List Int) (w : World) (hA : Sl w 1 byteRow A bs) (hb : ∀ x ∈ bs, 0 ≤ x ∧ x ≤ 255) (_hl : bs.length ≤ maxLen) (hE : Env w) :
    Calls Tryd.prog 3 #[.slice A bs.length c] w fun e' w' => e' = .returned (.bool true) ∧ ∃ g, w' = plus w g := by
  have HA := hid hA
  have HB := hid hb
  have HE := hid hE
  clear hA hb hE
  by_cases hbig : (65536 : Int) < (bs.length : Int)
  · go_enter Tryd.func3, Tryd.ntmps3
    go_wp2_with (go_at_call 6; refine (l_vBig _ _ _ _).mono ?_; (rintro e w' ⟨rfl, rfl⟩))
    go_ret
    exact ⟨rfl, by (repeat (first | with_reducible exact grew_refl _ | with_reducible assumption | with_reducible refine grew_split ?_ | with_reducible refine grew_mk ?_ | with_reducible refine grew_plus ?_ | with_reducible refine grew_alloc ?_ | with_reducible refine grew_drew ?_ | (with_reducible refine grew_set ?_ (by first | exact Nat.le_refl _ | omega | (simp [go_sem]; done) | (simp [go_sem]; omega)))))⟩
  have HC := hid (show Code0 w A bs from ⟨HA.out, HB.out, by omega⟩)
  go_enter Tryd.func3, Tryd.ntmps3
  go_wp2_with (go_at_call 6; refine (l_vBig _ _ _ _).mono ?_; (rintro e w' ⟨rfl, rfl⟩))
  refine (s_DrawAppend A c bs _ HC.out HE.out).mono ?_
  rintro e W1 ⟨⟨l, r, rfl, hL, hr1, hr2⟩, hg⟩
  have HG := hid hg
  have HE1 := hid (HE.out.grew hg)
  have HL := hid hL
  obtain ⟨z1, z2, z3⟩ := hL
  clear hg
  obtain ⟨m, co, hm⟩ : ∃ m co, appF l r = (m, co) := ⟨_, _, rfl⟩
  have HM := hid hm
  clear hm
  go_wp2_with fail
  refine (i_AppendRecord l r _ (by omega) (by omega) (by unfold maxLen; omega) (by unfold maxLen; omega) (HE1.out.grew (by (repeat (first | with_reducible exact grew_refl _ | with_reducible assumption | with_reducible refine grew_split ?_ | with_reducible refine grew_mk ?_ | with_reducible refine grew_plus ?_ | with_reducible refine grew_alloc ?_ | with_reducible refine grew_drew ?_ | (with_reducible refine grew_set ?_ (by first | exact Nat.le_refl _ | omega | (simp [go_sem]; done) | (simp [go_sem]; omega)))))))).mono ?_
  rw [HM.out]
  rintro e w' ⟨rfl, g1, rfl⟩
  go_wp2_with fail
  refine (s_AppendRecord l r _ (by omega) (by omega) (by unfold maxLen; omega) (by unfold maxLen; omega) (HE1.out.grew (by (repeat (first | with_reducible exact grew_refl _ | with_reducible assumption | with_reducible refine grew_split ?_ | with_reducible refine grew_mk ?_ | with_reducible refine grew_plus ?_ | with_reducible refine grew_alloc ?_ | with_reducible refine grew_drew ?_ | (with_reducible refine grew_set ?_ (by first | exact Nat.le_refl _ | omega | (simp [go_sem]; done) | (simp [go_sem]; omega)))))))).mono ?_
  rw [HM.out]
  rintro e w' ⟨rfl, g2, rfl⟩
  go_upto_region 6 with fail
  generalize hb5 : W1.heap.size + 1 + 1 + g1.objs.size = b5
  generalize hb7 : b5 + 1 + g2.objs.size = b7
  refine opq_wp (fun W2 => Blk W2 W1.heap.size 25 #[.string (l).d, .string (l).p, .int .i64 (l).n] ∧ Blk W2 (W1.heap.size + 1) 27 #[.string (r).c, .string (r).r] ∧ Blk W2 b5 25 #[.string (m).d, .string (m).p, .int .i64 (m).n] ∧ Blk W2 b7 25 #[.string (m).d, .string (m).p, .int .i64 (m).n] ∧ ∃ g, W2 = plus w g) ⟨blk_grew (blk_new rfl) (by (repeat (first | with_reducible exact grew_refl _ | with_reducible assumption | with_reducible refine grew_split ?_ | with_reducible refine grew_mk ?_ | with_reducible refine grew_plus ?_ | with_reducible refine grew_alloc ?_ | with_reducible refine grew_drew ?_ | (with_reducible refine grew_set ?_ (by first | exact Nat.le_refl _ | omega | (simp [go_sem]; done) | (simp [go_sem]; omega)))))), blk_grew (blk_new (w := W1.alloc _) (by simp)) (by (repeat (first | with_reducible exact grew_refl _ | with_reducible assumption | with_reducible refine grew_split ?_ | with_reducible refine grew_mk ?_ | with_reducible refine grew_plus ?_ | with_reducible refine grew_alloc ?_ | with_reducible refine grew_drew ?_ | (with_reducible refine grew_set ?_ (by first | exact Nat.le_refl _ | omega | (simp [go_sem]; done) | (simp [go_sem]; omega)))))), blk_grew (blk_new (w := plus ((W1.alloc _).alloc _) g1) (by subst hb5; simp [go_sem])) (by (repeat (first | with_reducible exact grew_refl _ | with_reducible assumption | with_reducible refine grew_split ?_ | with_reducible refine grew_mk ?_ | with_reducible refine grew_plus ?_ | with_reducible refine grew_alloc ?_ | with_reducible refine grew_drew ?_ | (with_reducible refine grew_set ?_ (by first | exact Nat.le_refl _ | omega | (simp [go_sem]; done) | (simp [go_sem]; omega)))))), blk_new (by subst hb7 hb5; simp [go_sem]), by have hg := HG.out; (repeat (first | with_reducible exact grew_refl _ | with_reducible assumption | with_reducible refine grew_split ?_ | with_reducible refine grew_mk ?_ | with_reducible refine grew_plus ?_ | with_reducible refine grew_alloc ?_ | with_reducible refine grew_drew ?_ | (with_reducible refine grew_set ?_ (by first | exact Nat.le_refl _ | omega | (simp [go_sem]; done) | (simp [go_sem]; omega)))))⟩ ?_
  clear hb5 hb7
  rintro W2 ⟨hB3, hB4, hB5, hB7, hg2⟩
  have hl3 := hB3.lt
  have hl4 := hB4.lt
  have hl5 := hB5.lt
  have hl7 := hB7.lt
  (have ha0 := hB3.cell 0; have ha1 := hB3.cell 1; have ha2 := hB3.cell 2; simp [go_sem] at ha0 ha1 ha2)
  (have hb0 := hB4.cell 0; have hb1 := hB4.cell 1; simp [go_sem] at hb0 hb1)
  (have hc0 := hB5.cell 0; have hc1 := hB5.cell 1; have hc2 := hB5.cell 2; simp [go_sem] at hc0 hc1 hc2)
  (have hd0 := hB7.cell 0; have hd1 := hB7.cell 1; have hd2 := hB7.cell 2; simp [go_sem] at hd0 hd1 hd2)
  have HG2 := hid hg2
  have HE2 := hid (HE.out.grew hg2)
  have HB3 := hid hB3
  have HB4 := hid hB4
  have HB5 := hid hB5
  clear hB3 hB4 hB5 hB7 hg2 HG HE1
  obtain ⟨o1, ho1⟩ : ∃ o, l.ok = o := ⟨_, rfl⟩
  obtain ⟨o2, ho2⟩ : ∃ o, RecR.ok r = o := ⟨_, rfl⟩
  have HO1 := hid ho1
  have HO2 := hid ho2
  clear ho1 ho2
  have e1 : (m.d.toList == m.d.toList) = true := by simp
  have e2 : (m.p.toList == m.p.toList) = true := by simp
  have e3 : (m.n == m.n) = true := by simp
  have e4 : (o1 != o1) = false := by simp
  have e5 : (o2 != o2) = false := by simp
  have e6 : (co != co) = false := by simp
  (refine wp_region_calm (by kernel_rfl) (by kernel_rfl) ?_; (repeat' (first | go_big_quiet_step ((first | (go_at_call 10; first | exact calm_of (i_IsValidLog l _ HO1.out _ (by omega) (by omega) (HE2.out.grew (by (repeat (first | with_reducible exact grew_refl _ | with_reducible assumption | with_reducible refine grew_split ?_ | with_reducible refine grew_mk ?_ | with_reducible refine grew_plus ?_ | with_reducible refine grew_alloc ?_ | with_reducible refine grew_drew ?_ | (with_reducible refine grew_set ?_ (by first | exact Nat.le_refl _ | omega | (simp [go_sem]; done) | (simp [go_sem]; omega)))))))) | exact calm_add (i_IsValidLog l _ HO1.out _ (by omega) (by omega) (HE2.out.grew (by (repeat (first | with_reducible exact grew_refl _ | with_reducible assumption | with_reducible refine grew_split ?_ | with_reducible refine grew_mk ?_ | with_reducible refine grew_plus ?_ | with_reducible refine grew_alloc ?_ | with_reducible refine grew_drew ?_ | (with_reducible refine grew_set ?_ (by first | exact Nat.le_refl _ | omega | (simp [go_sem]; done) | (simp [go_sem]; omega))))))))) | (go_at_call 11; first | exact calm_of (s_IsValidLog l _ HO1.out _ (by omega) (by omega)) | exact calm_add (s_IsValidLog l _ HO1.out _ (by omega) (by omega))) | (go_at_call 12; first | exact calm_of (i_IsValidRecord r.c r.r _ HO2.out _ (by unfold maxLen; omega) (by unfold maxLen; omega)) | exact calm_add (i_IsValidRecord r.c r.r _ HO2.out _ (by unfold maxLen; omega) (by unfold maxLen; omega))) | (go_at_call 13; first | exact calm_of (s_IsValidRecord r.c r.r _ HO2.out _ (by unfold maxLen; omega) (by unfold maxLen; omega)) | exact calm_add (s_IsValidRecord r.c r.r _ HO2.out _ (by unfold maxLen; omega) (by unfold maxLen; omega))))) | (refine wpQuiet_step (fun K hK => ?_); go_simp; go_ite <;> go_simp <;> (first | (refine hK _ ?_; clear hK K) | (apply Exists.intro; refine ⟨fun _ => ?_, hK _ ?_⟩; ((first | (go_at_call 10; first | exact calm_of (i_IsValidLog l _ HO1.out _ (by omega) (by omega) (HE2.out.grew (by (repeat (first | with_reducible exact grew_refl _ | with_reducible assumption | with_reducible refine grew_split ?_ | with_reducible refine grew_mk ?_ | with_reducible refine grew_plus ?_ | with_reducible refine grew_alloc ?_ | with_reducible refine grew_drew ?_ | (with_reducible refine grew_set ?_ (by first | exact Nat.le_refl _ | omega | (simp [go_sem]; done) | (simp [go_sem]; omega)))))))) | exact calm_add (i_IsValidLog l _ HO1.out _ (by omega) (by omega) (HE2.out.grew (by (repeat (first | with_reducible exact grew_refl _ | with_reducible assumption | with_reducible refine grew_split ?_ | with_reducible refine grew_mk ?_ | with_reducible refine grew_plus ?_ | with_reducible refine grew_alloc ?_ | with_reducible refine grew_drew ?_ | (with_reducible refine grew_set ?_ (by first | exact Nat.le_refl _ | omega | (simp [go_sem]; done) | (simp [go_sem]; omega))))))))) | (go_at_call 11; first | exact calm_of (s_IsValidLog l _ HO1.out _ (by omega) (by omega)) | exact calm_add (s_IsValidLog l _ HO1.out _ (by omega) (by omega))) | (go_at_call 12; first | exact calm_of (i_IsValidRecord r.c r.r _ HO2.out _ (by unfold maxLen; omega) (by unfold maxLen; omega)) | exact calm_add (i_IsValidRecord r.c r.r _ HO2.out _ (by unfold maxLen; omega) (by unfold maxLen; omega))) | (go_at_call 13; first | exact calm_of (s_IsValidRecord r.c r.r _ HO2.out _ (by unfold maxLen; omega) (by unfold maxLen; omega)) | exact calm_add (s_IsValidRecord r.c r.r _ HO2.out _ (by unfold maxLen; omega) (by unfold maxLen; omega))))); clear hK K))))); all_goals (refine wpQuiet_nil ?_; intro _ hw'; obtain ⟨gq, hw''⟩ := hw'; subst hw''))
  clear e1 e2 e3 e4 e5 e6
  have hlog := log_law (l := l) (e := r)
  have hback := appF_back (l := l) (e := r)
  rw [HM.out] at hlog hback
  simp only at hlog hback
  by_cases hco : co = 0
  · obtain ⟨q1, q2, q3, q4, q5⟩ := hlog hco
    clear hlog hback
    subst hco
    have hsm := LogR.small q1
    have HQ4 := hid q4
    rw [ByteArray.size_append] at hsm
    obtain ⟨R, hR⟩ : ∃ R, lrF l = R := ⟨_, rfl⟩
    rw [hR] at q2
    have hln := lrF_len l
    rw [hR] at hln
    have hlen : (R ++ [r]).length = R.length + 1 := by simp
    rw [q2, hlen] at q3
    obtain ⟨y, hy⟩ : ∃ y, syncF m = (y, true) := ⟨(syncF m).1, by rw [← q5]⟩
    have HY := hid hy
    have HR := hid hR
    have HQ1 := hid q1
    have HQ2 := hid q2
    have HQ3 := hid q3
    have hs0 : ¬ 9223372036854775807 < m.d.size + m.p.size := by omega
    rw [hy] at q4
    have hsz : (m.d ++ m.p).size ≤ 22320 := by rw [ByteArray.size_append]; omega
    have HLEN := hid hlen
    clear q1 q2 q3 q4 q5 hy hR hlen HQ4
    have HQ4 : Hid (recovF (m.d ++ m.p) = (y, ((m.d ++ m.p).size : Int), true)) := hid (by have h := (log_law (l := l) (e := r)); rw [HM.out] at h; have h2 := (h rfl).2.2.2.1; simp only at h2; rw [h2, HY.out])
    go_wp2_with fail
    refine (i_LogRecords m _ (by omega) (by omega) (HE2.out.grew (by (repeat (first | with_reducible exact grew_refl _ | with_reducible assumption | with_reducible refine grew_split ?_ | with_reducible refine grew_mk ?_ | with_reducible refine grew_plus ?_ | with_reducible refine grew_alloc ?_ | with_reducible refine grew_drew ?_ | (with_reducible refine grew_set ?_ (by first | exact Nat.le_refl _ | omega | (simp [go_sem]; done) | (simp [go_sem]; omega)))))))).mono ?_
    rw [HQ2.out, HQ1.out, HLEN.out]
    rintro e w' ⟨⟨A1, c1, rfl, hO1⟩, g3, rfl⟩
    (try rw [plus_plus] at hO1)
    have O1 := hid hO1.sl
    clear hO1
    go_wp2_with fail
    refine (i_LogRecords l _ (by omega) (by omega) (HE2.out.grew (by (repeat (first | with_reducible exact grew_refl _ | with_reducible assumption | with_reducible refine grew_split ?_ | with_reducible refine grew_mk ?_ | with_reducible refine grew_plus ?_ | with_reducible refine grew_alloc ?_ | with_reducible refine grew_drew ?_ | (with_reducible refine grew_set ?_ (by first | exact Nat.le_refl _ | omega | (simp [go_sem]; done) | (simp [go_sem]; omega)))))))).mono ?_
    rw [HR.out]
    rintro e w' ⟨⟨A2, c2, rfl, hO2⟩, g4, rfl⟩
    (try rw [plus_plus] at hO2)
    have O2 := hid hO2.sl
    clear hO2
    go_wp2_with fail
    refine (i_RecoverLog (m.d ++ m.p) _ (by omega) (HE2.out.grew (by (repeat (first | with_reducible exact grew_refl _ | with_reducible assumption | with_reducible refine grew_split ?_ | with_reducible refine grew_mk ?_ | with_reducible refine grew_plus ?_ | with_reducible refine grew_alloc ?_ | with_reducible refine grew_drew ?_ | (with_reducible refine grew_set ?_ (by first | exact Nat.le_refl _ | omega | (simp [go_sem]; done) | (simp [go_sem]; omega)))))))).mono ?_
    rw [HQ4.out]
    rintro e w' ⟨rfl, g5, rfl⟩
    go_wp2_with fail
    refine (i_SyncLog m _ (by omega) (by omega) (HE2.out.grew (by (repeat (first | with_reducible exact grew_refl _ | with_reducible assumption | with_reducible refine grew_split ?_ | with_reducible refine grew_mk ?_ | with_reducible refine grew_plus ?_ | with_reducible refine grew_alloc ?_ | with_reducible refine grew_drew ?_ | (with_reducible refine grew_set ?_ (by first | exact Nat.le_refl _ | omega | (simp [go_sem]; done) | (simp [go_sem]; omega)))))))).mono ?_
    rw [HY.out]
    rintro e w' ⟨rfl, g6, rfl⟩
    have hq3 := HQ3.out
    have hmn : (m.n == (R.length : Int) + 1) = true := by simp; omega
    have hmd : (m.n != (R.length : Int) + 1) = false := by simp; omega
    go_upto_region 14 with fail
    generalize hb13 : W2.heap.size + (((gq.add g3).add g4).add g5).objs.size = b13
    generalize hb16 : b13 + 1 + g6.objs.size = b16
    refine opq_wp (fun W3 => Blk W3 (W1.heap.size + 1) 27 #[.string (r).c, .string (r).r] ∧ Blk W3 b5 25 #[.string (m).d, .string (m).p, .int .i64 (m).n] ∧ Blk W3 b13 25 #[.string (y).d, .string (y).p, .int .i64 (y).n] ∧ Blk W3 b16 25 #[.string (y).d, .string (y).p, .int .i64 (y).n] ∧ Sl W3 2 RecR.row A1 (R ++ [r]) ∧ Sl W3 2 RecR.row A2 R ∧ ∃ g, W3 = plus w g) ⟨blk_grew HB4.out (by (repeat (first | with_reducible exact grew_refl _ | with_reducible assumption | with_reducible refine grew_split ?_ | with_reducible refine grew_mk ?_ | with_reducible refine grew_plus ?_ | with_reducible refine grew_alloc ?_ | with_reducible refine grew_drew ?_ | (with_reducible refine grew_set ?_ (by first | exact Nat.le_refl _ | omega | (simp [go_sem]; done) | (simp [go_sem]; omega)))))), blk_grew HB5.out (by (repeat (first | with_reducible exact grew_refl _ | with_reducible assumption | with_reducible refine grew_split ?_ | with_reducible refine grew_mk ?_ | with_reducible refine grew_plus ?_ | with_reducible refine grew_alloc ?_ | with_reducible refine grew_drew ?_ | (with_reducible refine grew_set ?_ (by first | exact Nat.le_refl _ | omega | (simp [go_sem]; done) | (simp [go_sem]; omega)))))), blk_grew (blk_new (w := plus W2 (((gq.add g3).add g4).add g5)) (by subst hb13; simp [go_sem])) (by (repeat (first | with_reducible exact grew_refl _ | with_reducible assumption | with_reducible refine grew_split ?_ | with_reducible refine grew_mk ?_ | with_reducible refine grew_plus ?_ | with_reducible refine grew_alloc ?_ | with_reducible refine grew_drew ?_ | (with_reducible refine grew_set ?_ (by first | exact Nat.le_refl _ | omega | (simp [go_sem]; done) | (simp [go_sem]; omega)))))), blk_new (by subst hb16 hb13; simp [go_sem]), O1.out.grew (by (repeat (first | with_reducible exact grew_refl _ | with_reducible assumption | with_reducible refine grew_split ?_ | with_reducible refine grew_mk ?_ | with_reducible refine grew_plus ?_ | with_reducible refine grew_alloc ?_ | with_reducible refine grew_drew ?_ | (with_reducible refine grew_set ?_ (by first | exact Nat.le_refl _ | omega | (simp [go_sem]; done) | (simp [go_sem]; omega)))))), O2.out.grew (by (repeat (first | with_reducible exact grew_refl _ | with_reducible assumption | with_reducible refine grew_split ?_ | with_reducible refine grew_mk ?_ | with_reducible refine grew_plus ?_ | with_reducible refine grew_alloc ?_ | with_reducible refine grew_drew ?_ | (with_reducible refine grew_set ?_ (by first | exact Nat.le_refl _ | omega | (simp [go_sem]; done) | (simp [go_sem]; omega)))))), by have hg := HG2.out; (repeat (first | with_reducible exact grew_refl _ | with_reducible assumption | with_reducible refine grew_split ?_ | with_reducible refine grew_mk ?_ | with_reducible refine grew_plus ?_ | with_reducible refine grew_alloc ?_ | with_reducible refine grew_drew ?_ | (with_reducible refine grew_set ?_ (by first | exact Nat.le_refl _ | omega | (simp [go_sem]; done) | (simp [go_sem]; omega)))))⟩ ?_
    clear hb13 hb16 ha0 ha1 ha2 hb0 hb1 hc0 hc1 hc2 hd0 hd1 hd2
    rintro W3 ⟨hB4, hB5, hB13, hB16, hO1, hO2, hg3⟩
    have hl4 := hB4.lt
    have hl5 := hB5.lt
    have hl13 := hB13.lt
    have hl16 := hB16.lt
    (have hb0 := hB4.cell 0; have hb1 := hB4.cell 1; simp [go_sem] at hb0 hb1)
    (have hc0 := hB5.cell 0; have hc1 := hB5.cell 1; have hc2 := hB5.cell 2; simp [go_sem] at hc0 hc1 hc2)
    (have hd0 := hB13.cell 0; have hd1 := hB13.cell 1; have hd2 := hB13.cell 2; simp [go_sem] at hd0 hd1 hd2)
    (have he0 := hB16.cell 0; have he1 := hB16.cell 1; have he2 := hB16.cell 2; simp [go_sem] at he0 he1 he2)
    have O1 := hid hO1
    have O2 := hid hO2
    have HG3 := hid hg3
    have HE3 := hid (HE.out.grew hg3)
    clear hB4 hB5 hB13 hB16 hO1 hO2 hg3 hq3
    go_wp2_with fail
    go_loopw [18] (fun i wr => ∃ k : Nat, k ≤ R.length ∧ i = .int .i64 k ∧ ∃ g, wr = plus W3 g) (fun i _ => R.length - (intOf i).toNat)
    case atStart => exact ⟨0, Nat.zero_le _, rfl, by (repeat (first | with_reducible exact grew_refl _ | with_reducible assumption | with_reducible refine grew_split ?_ | with_reducible refine grew_mk ?_ | with_reducible refine grew_plus ?_ | with_reducible refine grew_alloc ?_ | with_reducible refine grew_drew ?_ | (with_reducible refine grew_set ?_ (by first | exact Nat.le_refl _ | omega | (simp [go_sem]; done) | (simp [go_sem]; omega)))))⟩
    case round =>
      obtain ⟨k, hk, rfl, gq, rfl⟩ := hrel
      by_cases hlt : k < R.length
      · obtain ⟨b, off, rfl, hb, hx⟩ := O1.out.at_ (k := k) (by simp; omega)
        obtain ⟨b', off', rfl, hb', hx'⟩ := O2.out.at_ hlt
        have hy := rcells hx (k := k) (by simp; omega)
        rw [List.getElem_append_left hlt] at hy
        obtain ⟨y0, y1⟩ := hy
        obtain ⟨y2, y3⟩ := rcells hx' hlt
        generalize R[k] = x at y0 y1 y2 y3
        have e1 : (x.c.toList == x.c.toList) = true := by simp
        have e2 : (x.r.toList == x.r.toList) = true := by simp
        have hk0 : (0 : Int) ≤ (k : Int) := by omega
        have hk1 : (k : Int) < (R.length : Int) := by omega
        have hk2 : (k : Int) < (R.length : Int) + 1 := by omega
        clear hx hx'
        go_wp2_with fail
        (refine wp_region_calm (by kernel_rfl) (by kernel_rfl) ?_; (repeat' (first | go_big_quiet_step (fail) | (refine wpQuiet_step (fun K hK => ?_); go_simp; go_ite <;> go_simp <;> (first | (refine hK _ ?_; clear hK K) | (apply Exists.intro; refine ⟨fun _ => ?_, hK _ ?_⟩; (fail); clear hK K))))); all_goals (refine wpQuiet_nil ?_; intro _ hw'; obtain ⟨gq, hw''⟩ := hw'; subst hw''))
        go_wp2_with fail
        go_roundw
        case rel => exact ⟨k + 1, by omega, by go_num, by (repeat (first | with_reducible exact grew_refl _ | with_reducible assumption | with_reducible refine grew_split ?_ | with_reducible refine grew_mk ?_ | with_reducible refine grew_plus ?_ | with_reducible refine grew_alloc ?_ | with_reducible refine grew_drew ?_ | (with_reducible refine grew_set ?_ (by first | exact Nat.le_refl _ | omega | (simp [go_sem]; done) | (simp [go_sem]; omega)))))⟩
        case measure => simp [intOf]; omega
      · obtain rfl : k = R.length := by omega
        obtain ⟨b, off, rfl, hb, hx⟩ := O1.out.at_ (k := R.length) (by simp)
        have hy := rcells hx (k := R.length) (by simp)
        rw [List.getElem_append_right (by omega)] at hy
        simp only [Nat.sub_self, List.getElem_cons_zero] at hy
        obtain ⟨y0, y1⟩ := hy
        have e1 : (r.c.toList == r.c.toList) = true := by simp
        have e2 : (r.r.toList == r.r.toList) = true := by simp
        have e3 : (y.d.toList == y.d.toList) = true := by simp
        have e4 : (y.p.toList == y.p.toList) = true := by simp
        have e5 : (y.n == y.n) = true := by simp
        clear hx
        go_wp2_with fail
        (refine wp_region_calm (by kernel_rfl) (by kernel_rfl) ?_; (repeat' (first | go_big_quiet_step ((go_at_call 10; first | exact calm_of (i_IsValidLog m _ HQ1.out _ (by omega) (by omega) (HE3.out.grew (by (repeat (first | with_reducible exact grew_refl _ | with_reducible assumption | with_reducible refine grew_split ?_ | with_reducible refine grew_mk ?_ | with_reducible refine grew_plus ?_ | with_reducible refine grew_alloc ?_ | with_reducible refine grew_drew ?_ | (with_reducible refine grew_set ?_ (by first | exact Nat.le_refl _ | omega | (simp [go_sem]; done) | (simp [go_sem]; omega)))))))) | exact calm_add (i_IsValidLog m _ HQ1.out _ (by omega) (by omega) (HE3.out.grew (by (repeat (first | with_reducible exact grew_refl _ | with_reducible assumption | with_reducible refine grew_split ?_ | with_reducible refine grew_mk ?_ | with_reducible refine grew_plus ?_ | with_reducible refine grew_alloc ?_ | with_reducible refine grew_drew ?_ | (with_reducible refine grew_set ?_ (by first | exact Nat.le_refl _ | omega | (simp [go_sem]; done) | (simp [go_sem]; omega)))))))))) | (refine wpQuiet_step (fun K hK => ?_); go_simp; go_ite <;> go_simp <;> (first | (refine hK _ ?_; clear hK K) | (apply Exists.intro; refine ⟨fun _ => ?_, hK _ ?_⟩; ((go_at_call 10; first | exact calm_of (i_IsValidLog m _ HQ1.out _ (by omega) (by omega) (HE3.out.grew (by (repeat (first | with_reducible exact grew_refl _ | with_reducible assumption | with_reducible refine grew_split ?_ | with_reducible refine grew_mk ?_ | with_reducible refine grew_plus ?_ | with_reducible refine grew_alloc ?_ | with_reducible refine grew_drew ?_ | (with_reducible refine grew_set ?_ (by first | exact Nat.le_refl _ | omega | (simp [go_sem]; done) | (simp [go_sem]; omega)))))))) | exact calm_add (i_IsValidLog m _ HQ1.out _ (by omega) (by omega) (HE3.out.grew (by (repeat (first | with_reducible exact grew_refl _ | with_reducible assumption | with_reducible refine grew_split ?_ | with_reducible refine grew_mk ?_ | with_reducible refine grew_plus ?_ | with_reducible refine grew_alloc ?_ | with_reducible refine grew_drew ?_ | (with_reducible refine grew_set ?_ (by first | exact Nat.le_refl _ | omega | (simp [go_sem]; done) | (simp [go_sem]; omega)))))))))); clear hK K))))); all_goals (refine wpQuiet_nil ?_; intro _ hw'; obtain ⟨gq, hw''⟩ := hw'; subst hw''))
        go_wp2_with fail
        go_ret
        have hg := HG3.out
        exact ⟨rfl, by (repeat (first | with_reducible exact grew_refl _ | with_reducible assumption | with_reducible refine grew_split ?_ | with_reducible refine grew_mk ?_ | with_reducible refine grew_plus ?_ | with_reducible refine grew_alloc ?_ | with_reducible refine grew_drew ?_ | (with_reducible refine grew_set ?_ (by first | exact Nat.le_refl _ | omega | (simp [go_sem]; done) | (simp [go_sem]; omega)))))⟩
  · have hml := hback hco
    have HB := hid hml
    obtain rfl : m = l := HB.out
    have c1 : (co != 0) = true := by simp [hco]
    have e1 : (m.d.toList == m.d.toList) = true := by simp
    have e2 : (m.p.toList == m.p.toList) = true := by simp
    have e3 : (m.n == m.n) = true := by simp
    clear hlog hback hml
    go_wp2_with fail
    go_ret
    have hg := HG2.out
    exact ⟨rfl, by (repeat (first | with_reducible exact grew_refl _ | with_reducible assumption | with_reducible refine grew_split ?_ | with_reducible refine grew_mk ?_ | with_reducible refine grew_plus ?_ | with_reducible refine grew_alloc ?_ | with_reducible refine grew_drew ?_ | (with_reducible refine grew_set ?_ (by first | exact Nat.le_refl _ | omega | (simp [go_sem]; done) | (simp [go_sem]; omega)))))⟩
theorem fnLog_met (os : Os) : laidMet Tryd.prog Rows.fnLogRow.laid ((laidWorld os).forCall (fun _ _ => 0) ⟨#[], #[.slice none 0 0], []⟩).memory :=
  laidMet_of_run' 8 (by kernel_rfl) (by kernel_rfl)
theorem fnLog_reads (os : Os) {H : Type} (enc : TypeId × Value → H) : ∃ places, DataW.whole enc Tryd.prog ((laidWorld os).forCall (fun _ _ => 0) ⟨#[], #[.slice none 0 0], []⟩).memory Tryd.f3.params.toList Rows.fnLogSpec.vars false (#[.slice none 0 0] : Array Value).toList 8 = some ([.nil], [], places) :=
  ⟨[], by kernel_rfl⟩
set_option maxRecDepth 100000 in
theorem fnLog_contract (H : Type) (enc : TypeId × Value → H) (W : World) (base : Nat) (args : Array Value) (ds gs : List (DataW H)) (before : List MemPlace)
    (hval0 : ∀ (j : Nat) t v, Tryd.f3.params[j]? = some t → args[j]? = some v → Value.okWide Tryd.prog W .any base t v)
    (hW : DataW.Whole enc Tryd.prog Tryd.f3.params.toList Rows.fnLogSpec.vars false W args.toList ds gs before) (hL : laidMetH Tryd.prog Rows.fnLogRow.laid W) (_hsh : W.ShapedOpen Tryd.prog) :
    Calls Tryd.prog 3 args W fun e W' => ∃ v, e = .returned v ∧ Rows.fnLogSpec.post enc Tryd.prog Tryd.f3 false true false false W args v W' := by
  have hT : Tab W := tab_of hL
  have hval := hval0
  have hW' := hW
  obtain ⟨p, q, hA0, hV, rfl, hfz, hnd⟩ := hW
  have hA : DataW.TrodAll enc Tryd.prog W 0 (fun _ => true) true Tryd.f3.params.toList args.toList ds p := hA0
  rw [Tryd.params3] at hA hval
  obtain ⟨v0, vs0, d0, ds0, p0, q0, hargs, rfl, rfl, h0, r0⟩ := trodAll_cons hA
  obtain ⟨rfl, rfl, rfl⟩ := trodAll_nil r0
  obtain rfl : args = #[v0] := by cases args; simp_all
  obtain ⟨rfl, rfl⟩ := trodVars_none hV
  have k0 := h0
  have lt0 : ∀ x ∈ p0, x.block < W.heap.size := by obtain ⟨m, hm⟩ := k0; exact DataW.trod_lt m _ _ _ hm
  obtain ⟨A, c, l, rfl, hS, hb, hl⟩ := open_code (hval 0 22 v0 rfl rfl) h0
  clear hA0 hval0
  refine (l_FnLog A c l W hS hb hl (env_of hT _hsh)).mono fun e W' ⟨he, hg⟩ => ?_
  have bel := below_of_grew hg
  subst he
  exact ⟨_, rfl, _, _, _, [], _, [], hW', trodAll_mk1 (shut_bool Tryd.underlying4 _), (trodAll_cons_mk (Below.trod laid_out (by kernel_rfl) (of_decide_eq_true (by kernel_rfl)) k0 bel lt0) trodAll_mk0), rfl, bel.frame _, fun h => by cases h⟩
set_option maxRecDepth 100000 in
theorem fnLog_lifted (os : Os) (started : os.Started) (H : Type) (enc : TypeId × Value → H) (F : Stop.Interp) :
    ReturnsInHanded {} Tryd.checked os 3 .any ((OpenSpec.ofChange Rows.fnLogSpec).preRow enc Tryd.prog Tryd.f3 Rows.fnLogRow.domain false Rows.fnLogRow.laid) (((OpenSpec.ofChange Rows.fnLogSpec).at F).post enc Tryd.prog Tryd.f3 false true false false) := by
  obtain ⟨places, hx⟩ := fnLog_reads os enc
  refine returnsInHanded_of_row (C := Tryd.checked) (s := OpenSpec.ofChange Rows.fnLogSpec) own_knob started (by kernel_rfl) Tryd.func3
    (witness_row_at (enc := enc) (C := Tryd.checked) false (laidWorld os) #[.slice none 0 0] rfl (by kernel_rfl) (by kernel_rfl) (by kernel_rfl)
      (OpenSpec.preRow_of_cond 8 hx (by kernel_rfl) (fun k hk => by cases hk) (by kernel_rfl) (fnLog_met os))) ?_
  intro W base args ds gs before hval hW _ _ _ hL hsh _
  exact fnLog_contract H enc W base args ds gs before hval hW hL hsh
theorem fnLog_said : Rows.FnLogSaid :=
  OpenClaim.holds_of_cond 3 Tryd.f3 rfl rfl rfl rfl rfl rfl rfl ⟨rfl, rfl, rfl, rfl, rfl⟩ rfl rfl rfl rfl rfl (by kernel_rfl) Tryd.func3 (by kernel_rfl)
    (of_decide_eq_true (by kernel_rfl)) (by unfold Func.isWrapper; first | (rw [if_pos (by decide +kernel)]; kernel_rfl) | (rw [if_neg (by decide +kernel)]; exact ⟨rfl, rfl⟩))
    (fun os started H enc _ F => by rw [OpenClaim.pre_eq_preRow]; exact fnLog_lifted os started H enc F)
theorem fnLog_plain (f : FuncId) (fn : Func) (hf : Tryd.pinned.checked.prog.funcNamed Rows.fnLogRow.func = some f) (hfn : Tryd.pinned.checked.prog.funcs[f]? = some fn) :
    false = Tryd.pinned.checked.prog.looks [] ∧ ∀ (j : Nat) t, fn.params[j]? = some t → Tryd.pinned.checked.prog.wantsStandIn t = false := by
  obtain rfl : f = 3 := Option.some.inj ((show Tryd.prog.funcNamed Rows.fnLogRow.func = some 3 by kernel_rfl).symm.trans hf) |>.symm
  obtain rfl : fn = Tryd.f3 := (Option.some.inj (Tryd.func3.symm.trans hfn)).symm
  refine ⟨by kernel_rfl, fun j t ht => ?_⟩
  have h : ∀ t ∈ Tryd.f3.params.toList, Tryd.prog.wantsStandIn t = false := by rw [Tryd.params3]; intro t ht; simp at ht; rcases ht with rfl <;> kernel_rfl
  exact h t (by simpa using Array.mem_of_getElem? ht)
theorem fnLog_holds : Rows.FnLogCardSaid :=
  Claim7.holds_tied_plain_at .later [] _ _ _ _ fnLog_said (fun _ h => by cases h) (by kernel_rfl) (fun _ h => by cases h) fnLog_row_tie rfl ⟨rfl, rfl⟩ (by kernel_rfl) rfl fnLog_plain (by kernel_rfl)
end Go.Proofs.YtfnbbmhhilffeaaDoor
