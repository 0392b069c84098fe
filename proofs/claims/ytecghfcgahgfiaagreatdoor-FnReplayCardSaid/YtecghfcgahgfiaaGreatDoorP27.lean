import Derived.Test.YtecghfcgahgfiaaGreatDoorP26
import Derived.Test.YtecghfcgahgfiaaGreatDoorP11
import Derived.Test.YtecghfcgahgfiaaGreatDoorP8
/- ExecuteCommand, in the reference. -/
namespace Go.Proofs.YtecghfcgahgfiaaGreatDoor
open Go.RowKit

attribute [local go_sem ↓] Go.wp_at_zero Go.wp_at_succ
set_option maxHeartbeats 8000000 in
theorem s_ExecuteCommand (v : DayV) (l : LogR) (line : ByteArray) (w : World) (hv : Sl w 2 LineR.row v.A v.core.lines) (h8 : v.core.lines.length ≤ 1048576) (h1 : l.d.size ≤ 2097152) (h2 : l.p.size ≤ 2097152) (hls : line.size ≤ 4194304) (hE : Env w) :
    Calls Tryz.prog 9 #[ConV.val ⟨v, l⟩, .string line] w fun e w' => CmdPost w.heap.size (exeF v.core l line) e w' ∧ ∃ g, w' = plus w g := by
  have HL := hid hv
  have HE := hid hE
  have HV := hid (DayV.At.mk (v := v) hv (by unfold maxLen; omega))
  clear hv hE
  have h8' : v.core.lines.length ≤ maxLen := by unfold maxLen; omega
  have HL8 := hid h8'
  clear h8'
  go_enter Tryz.func9, Tryz.ntmps9
  go_wp2_with fail
  refine (s_l28Own v l _ (HL.out.grew (by (repeat (first | with_reducible exact grew_refl _ | with_reducible assumption | with_reducible refine grew_split ?_ | with_reducible refine grew_mk ?_ | with_reducible refine grew_plus ?_ | with_reducible refine grew_alloc ?_ | with_reducible refine grew_drew ?_ | (with_reducible refine grew_set ?_ (by first | exact Nat.le_refl _ | omega | (simp [go_sem]; done) | (simp [go_sem]; omega))))))) h8).mono ?_
  rintro e w' ⟨⟨A1, c1, rfl, hO1⟩, g1, rfl⟩
  have HO1 := hid hO1
  clear hO1
  go_upto_region 2 with fail
  generalize hb6 : w.heap.size + 1 + 1 + g1.objs.size = b6
  have hb6w : w.heap.size + 1 < b6 := by omega
  refine opq_wp (fun wr => Blk wr w.heap.size 30 #[.int .i64 (v.core).minute, .int .i64 (v.core).state, .slice v.A (v.core).lines.length v.c, .int .i64 (v.core).line, .int .i64 (v.core).since, .int .i64 (v.core).cast, .int .i64 (v.core).fuel, .string (l).d, .string (l).p, .int .i64 (l).n] ∧ Blk wr (w.heap.size + 1) 30 #[.int .i64 0, .int .i64 0, .slice none 0 0, .int .i64 0, .int .i64 0, .int .i64 0, .int .i64 0, .string ⟨#[]⟩, .string ⟨#[]⟩, .int .i64 0] ∧ Blk wr b6 30 #[.int .i64 (v.core).minute, .int .i64 (v.core).state, .slice A1 (v.core).lines.length c1, .int .i64 (v.core).line, .int .i64 (v.core).since, .int .i64 (v.core).cast, .int .i64 (v.core).fuel, .string (l).d, .string (l).p, .int .i64 (l).n] ∧ OwnF (w.heap.size + 2) 80 2 LineR.row wr A1 (v.core).lines ∧ ∃ g, wr = plus w g) ⟨blk_grew (blk_new rfl) (by (repeat (first | with_reducible exact grew_refl _ | with_reducible assumption | with_reducible refine grew_split ?_ | with_reducible refine grew_mk ?_ | with_reducible refine grew_plus ?_ | with_reducible refine grew_alloc ?_ | with_reducible refine grew_drew ?_ | (with_reducible refine grew_set ?_ (by first | exact Nat.le_refl _ | omega | (simp [go_sem]; done) | (simp [go_sem]; omega)))))), blk_grew (blk_new (w := w.alloc _) (by simp)) (by (repeat (first | with_reducible exact grew_refl _ | with_reducible assumption | with_reducible refine grew_split ?_ | with_reducible refine grew_mk ?_ | with_reducible refine grew_plus ?_ | with_reducible refine grew_alloc ?_ | with_reducible refine grew_drew ?_ | (with_reducible refine grew_set ?_ (by first | exact Nat.le_refl _ | omega | (simp [go_sem]; done) | (simp [go_sem]; omega)))))), blk_new (by subst hb6; simp [go_sem]), OwnF.less (OwnF.grew HO1.out (by (repeat (first | with_reducible exact grew_refl _ | with_reducible assumption | with_reducible refine grew_split ?_ | with_reducible refine grew_mk ?_ | with_reducible refine grew_plus ?_ | with_reducible refine grew_alloc ?_ | with_reducible refine grew_drew ?_ | (with_reducible refine grew_set ?_ (by first | exact Nat.le_refl _ | omega | (simp [go_sem]; done) | (simp [go_sem]; omega))))))) (by first | (simp [go_sem]; done) | (simp [go_sem]; omega)), by (repeat (first | with_reducible exact grew_refl _ | with_reducible assumption | with_reducible refine grew_split ?_ | with_reducible refine grew_mk ?_ | with_reducible refine grew_plus ?_ | with_reducible refine grew_alloc ?_ | with_reducible refine grew_drew ?_ | (with_reducible refine grew_set ?_ (by first | exact Nat.le_refl _ | omega | (simp [go_sem]; done) | (simp [go_sem]; omega)))))⟩ ?_
  clear hb6 HO1
  rintro wr ⟨hP, hR, hB, hO, hg⟩
  have HR6 := hid hR
  have HP6 := hid hP
  have hpl := hP.lt
  have hbl := hB.lt
  have hrl := hR.lt
  (have hx0 := hP.cell 0; have hx1 := hP.cell 1; have hx2 := hP.cell 2; have hx3 := hP.cell 3; have hx4 := hP.cell 4; have hx5 := hP.cell 5; have hx6 := hP.cell 6; have hx7 := hP.cell 7; have hx8 := hP.cell 8; have hx9 := hP.cell 9; simp [go_sem] at hx0 hx1 hx2 hx3 hx4 hx5 hx6 hx7 hx8 hx9)
  (have hd0 := hB.cell 0; have hd1 := hB.cell 1; have hd2 := hB.cell 2; have hd3 := hB.cell 3; have hd4 := hB.cell 4; have hd5 := hB.cell 5; have hd6 := hB.cell 6; have hd7 := hB.cell 7; have hd8 := hB.cell 8; have hd9 := hB.cell 9; simp [go_sem] at hd0 hd1 hd2 hd3 hd4 hd5 hd6 hd7 hd8 hd9)
  (have he0 := hR.cell 0; have he1 := hR.cell 1; have he2 := hR.cell 2; have he3 := hR.cell 3; have he4 := hR.cell 4; have he5 := hR.cell 5; have he6 := hR.cell 6; have he7 := hR.cell 7; have he8 := hR.cell 8; have he9 := hR.cell 9; simp [go_sem] at he0 he1 he2 he3 he4 he5 he6 he7 he8 he9)
  (have fd0 := hB.frozen 0; have fd1 := hB.frozen 1; have fd2 := hB.frozen 2; have fd3 := hB.frozen 3; have fd4 := hB.frozen 4; have fd5 := hB.frozen 5; have fd6 := hB.frozen 6; have fd7 := hB.frozen 7; have fd8 := hB.frozen 8; have fd9 := hB.frozen 9)
  (have fe0 := hR.frozen 0; have fe1 := hR.frozen 1; have fe2 := hR.frozen 2; have fe3 := hR.frozen 3; have fe4 := hR.frozen 4; have fe5 := hR.frozen 5; have fe6 := hR.frozen 6; have fe7 := hR.frozen 7; have fe8 := hR.frozen 8; have fe9 := hR.frozen 9)
  have HO := hid hO
  have HG := hid hg
  have HB := hid hB
  clear hP hB hR hO hg
  cases hc : conOk v.core l
  · have HC := hid hc
    have HF := hid (exeF_no (line := line) hc)
    clear hc
    go_wp2_with fail
    refine (s_l28Good v l _ HC.out _ (HV.out.grew (grew_two' HG.out (by (repeat (first | with_reducible exact grew_refl _ | with_reducible assumption | with_reducible refine grew_split ?_ | with_reducible refine grew_mk ?_ | with_reducible refine grew_plus ?_ | with_reducible refine grew_alloc ?_ | with_reducible refine grew_drew ?_ | (with_reducible refine grew_set ?_ (by first | exact Nat.le_refl _ | omega | (simp [go_sem]; done) | (simp [go_sem]; omega)))))))) h1 h2 (HE.out.grew (grew_two' HG.out (by (repeat (first | with_reducible exact grew_refl _ | with_reducible assumption | with_reducible refine grew_split ?_ | with_reducible refine grew_mk ?_ | with_reducible refine grew_plus ?_ | with_reducible refine grew_alloc ?_ | with_reducible refine grew_drew ?_ | (with_reducible refine grew_set ?_ (by first | exact Nat.le_refl _ | omega | (simp [go_sem]; done) | (simp [go_sem]; omega))))))))).mono ?_
    (rintro e w' ⟨rfl, gx, rfl⟩)
    (go_wp2_with fail; refine bodyPost_ret (v := .tuple #[ConV.val ⟨⟨v.core, A1, c1⟩, l⟩, .string (bs [110, 111])]) (by simp [results, Tryz.results9, go_sem, *]; try rfl) rfl ?_; have hg := HG.out; refine ⟨⟨A1, c1, by rw [HF.out], ?_⟩, by (repeat (first | with_reducible exact grew_refl _ | with_reducible assumption | with_reducible refine grew_split ?_ | with_reducible refine grew_mk ?_ | with_reducible refine grew_plus ?_ | with_reducible refine grew_alloc ?_ | with_reducible refine grew_drew ?_ | (with_reducible refine grew_set ?_ (by first | exact Nat.le_refl _ | omega | (simp [go_sem]; done) | (simp [go_sem]; omega)))))⟩; rw [HF.out]; exact (OwnF.kept HO.out (row := some (w.heap.size + 1)) (by (repeat (first | with_reducible exact grown_refl _ _ | with_reducible assumption | with_reducible refine gb_plus ?_ | with_reducible refine gb_alloc ?_ | with_reducible refine gb_drew ?_ | with_reducible refine grown_set ?_))) (fun k hk => by injection hk with hk; omega)).less (by omega))
  have HC := hid hc
  cases hr : recOk line ⟨#[]⟩
  · have HR := hid hr
    have HF := hid (exeF_bad hc hr)
    clear hc hr
    go_wp2_with fail
    refine (s_l28Good v l _ HC.out _ (HV.out.grew (grew_two' HG.out (by (repeat (first | with_reducible exact grew_refl _ | with_reducible assumption | with_reducible refine grew_split ?_ | with_reducible refine grew_mk ?_ | with_reducible refine grew_plus ?_ | with_reducible refine grew_alloc ?_ | with_reducible refine grew_drew ?_ | (with_reducible refine grew_set ?_ (by first | exact Nat.le_refl _ | omega | (simp [go_sem]; done) | (simp [go_sem]; omega)))))))) h1 h2 (HE.out.grew (grew_two' HG.out (by (repeat (first | with_reducible exact grew_refl _ | with_reducible assumption | with_reducible refine grew_split ?_ | with_reducible refine grew_mk ?_ | with_reducible refine grew_plus ?_ | with_reducible refine grew_alloc ?_ | with_reducible refine grew_drew ?_ | (with_reducible refine grew_set ?_ (by first | exact Nat.le_refl _ | omega | (simp [go_sem]; done) | (simp [go_sem]; omega))))))))).mono ?_
    (rintro e w' ⟨rfl, gx, rfl⟩)
    go_wp2_with fail
    refine (s_l27Good line ⟨#[]⟩ _ HR.out _ (by unfold maxLen; omega) (by decide)).mono ?_
    (rintro e w' ⟨rfl, gx, rfl⟩)
    (go_wp2_with fail; refine bodyPost_ret (v := .tuple #[ConV.val ⟨⟨v.core, A1, c1⟩, l⟩, .string (bs [98, 97, 100])]) (by simp [results, Tryz.results9, go_sem, *]; try rfl) rfl ?_; have hg := HG.out; refine ⟨⟨A1, c1, by rw [HF.out], ?_⟩, by (repeat (first | with_reducible exact grew_refl _ | with_reducible assumption | with_reducible refine grew_split ?_ | with_reducible refine grew_mk ?_ | with_reducible refine grew_plus ?_ | with_reducible refine grew_alloc ?_ | with_reducible refine grew_drew ?_ | (with_reducible refine grew_set ?_ (by first | exact Nat.le_refl _ | omega | (simp [go_sem]; done) | (simp [go_sem]; omega)))))⟩; rw [HF.out]; exact (OwnF.kept HO.out (row := some (w.heap.size + 1)) (by (repeat (first | with_reducible exact grown_refl _ _ | with_reducible assumption | with_reducible refine gb_plus ?_ | with_reducible refine gb_alloc ?_ | with_reducible refine gb_drew ?_ | with_reducible refine grown_set ?_))) (fun k hk => by injection hk with hk; omega)).less (by omega))
  have HR := hid hr
  by_cases hn : l.n = 60
  · have HF := hid (exeF_full hc hr hn)
    have hn' : (l.n == 60) = true := by simp [hn]
    clear hc hr hn
    go_wp2_with fail
    refine (s_l28Good v l _ HC.out _ (HV.out.grew (grew_two' HG.out (by (repeat (first | with_reducible exact grew_refl _ | with_reducible assumption | with_reducible refine grew_split ?_ | with_reducible refine grew_mk ?_ | with_reducible refine grew_plus ?_ | with_reducible refine grew_alloc ?_ | with_reducible refine grew_drew ?_ | (with_reducible refine grew_set ?_ (by first | exact Nat.le_refl _ | omega | (simp [go_sem]; done) | (simp [go_sem]; omega)))))))) h1 h2 (HE.out.grew (grew_two' HG.out (by (repeat (first | with_reducible exact grew_refl _ | with_reducible assumption | with_reducible refine grew_split ?_ | with_reducible refine grew_mk ?_ | with_reducible refine grew_plus ?_ | with_reducible refine grew_alloc ?_ | with_reducible refine grew_drew ?_ | (with_reducible refine grew_set ?_ (by first | exact Nat.le_refl _ | omega | (simp [go_sem]; done) | (simp [go_sem]; omega))))))))).mono ?_
    (rintro e w' ⟨rfl, gx, rfl⟩)
    go_wp2_with fail
    refine (s_l27Good line ⟨#[]⟩ _ HR.out _ (by unfold maxLen; omega) (by decide)).mono ?_
    (rintro e w' ⟨rfl, gx, rfl⟩)
    (go_wp2_with fail; refine bodyPost_ret (v := .tuple #[ConV.val ⟨⟨v.core, A1, c1⟩, l⟩, .string (bs [102, 117, 108, 108])]) (by simp [results, Tryz.results9, go_sem, *]; try rfl) rfl ?_; have hg := HG.out; refine ⟨⟨A1, c1, by rw [HF.out], ?_⟩, by (repeat (first | with_reducible exact grew_refl _ | with_reducible assumption | with_reducible refine grew_split ?_ | with_reducible refine grew_mk ?_ | with_reducible refine grew_plus ?_ | with_reducible refine grew_alloc ?_ | with_reducible refine grew_drew ?_ | (with_reducible refine grew_set ?_ (by first | exact Nat.le_refl _ | omega | (simp [go_sem]; done) | (simp [go_sem]; omega)))))⟩; rw [HF.out]; exact (OwnF.kept HO.out (row := some (w.heap.size + 1)) (by (repeat (first | with_reducible exact grown_refl _ _ | with_reducible assumption | with_reducible refine gb_plus ?_ | with_reducible refine gb_alloc ?_ | with_reducible refine gb_drew ?_ | with_reducible refine grown_set ?_))) (fun k hk => by injection hk with hk; omega)).less (by omega))
  have HFM := hid (exeF_main hc hr hn)
  have hn' : (l.n == 60) = false := by simp [hn]
  obtain ⟨hdk, _⟩ := conOk_parts hc
  have HDK := hid hdk
  clear hc hr hn hdk
  go_wp2_with fail
  refine (s_l28Good v l _ HC.out _ (HV.out.grew (grew_two' HG.out (by (repeat (first | with_reducible exact grew_refl _ | with_reducible assumption | with_reducible refine grew_split ?_ | with_reducible refine grew_mk ?_ | with_reducible refine grew_plus ?_ | with_reducible refine grew_alloc ?_ | with_reducible refine grew_drew ?_ | (with_reducible refine grew_set ?_ (by first | exact Nat.le_refl _ | omega | (simp [go_sem]; done) | (simp [go_sem]; omega)))))))) h1 h2 (HE.out.grew (grew_two' HG.out (by (repeat (first | with_reducible exact grew_refl _ | with_reducible assumption | with_reducible refine grew_split ?_ | with_reducible refine grew_mk ?_ | with_reducible refine grew_plus ?_ | with_reducible refine grew_alloc ?_ | with_reducible refine grew_drew ?_ | (with_reducible refine grew_set ?_ (by first | exact Nat.le_refl _ | omega | (simp [go_sem]; done) | (simp [go_sem]; omega))))))))).mono ?_
  rintro e w' ⟨rfl, ga, rfl⟩
  go_wp2_with fail
  refine (s_l27Good line ⟨#[]⟩ _ HR.out _ (by unfold maxLen; omega) (by decide)).mono ?_
  rintro e w' ⟨rfl, gb, rfl⟩
  go_wp2_with fail
  refine (s_l28Run ⟨v.core, A1, c1⟩ l line _ (DayV.At.grew (DayV.At.mk HO.out.sl HL8.out) (by (repeat (first | with_reducible exact grew_refl _ | with_reducible assumption | with_reducible refine grew_split ?_ | with_reducible refine grew_mk ?_ | with_reducible refine grew_plus ?_ | with_reducible refine grew_alloc ?_ | with_reducible refine grew_drew ?_ | (with_reducible refine grew_set ?_ (by first | exact Nat.le_refl _ | omega | (simp [go_sem]; done) | (simp [go_sem]; omega))))))) HDK.out hls).mono ?_
  obtain ⟨p, hp⟩ : ∃ p, orNo v.core (runC v.core line) = p := ⟨_, rfl⟩
  rw [hp] at HFM ⊢
  have hpl8 : p.1.lines.length ≤ 1048576 := by
    rw [← hp]
    unfold orNo runC
    have key : ∀ k x, ((doStep v.core k x).getD (v.core, bs [63])).1.lines.length ≤ 1048576 := by
      intro k x
      cases h : doStep v.core k x with
      | none => exact h8
      | some q => have := (DayC.bounds (doStep_size h).1).2.2.2.2.2.1; simp only [Option.getD_some]; omega
    split
    · split
      · exact h8
      · split
        · cases doAsk v.core _ <;> exact h8
        · exact key _ _
    · split
      · split
        · exact key _ _
        · exact h8
      · exact h8
    · exact h8
  clear hp
  rintro e w6 ⟨⟨A3, c3, rfl, hO3⟩, hg6⟩
  have hS3 : Sl w6 2 LineR.row A3 p.1.lines := by
    rcases hO3 with ⟨h1, h2⟩ | h
    · rw [h1, h2]
      exact HO.out.sl.grew (by obtain ⟨_, rfl⟩ := hg6; (repeat (first | with_reducible exact grew_refl _ | with_reducible assumption | with_reducible refine grew_split ?_ | with_reducible refine grew_mk ?_ | with_reducible refine grew_plus ?_ | with_reducible refine grew_alloc ?_ | with_reducible refine grew_drew ?_ | (with_reducible refine grew_set ?_ (by first | exact Nat.le_refl _ | omega | (simp [go_sem]; done) | (simp [go_sem]; omega))))))
    · exact h.sl
  have HS3 := hid hS3
  have hgw6 : ∃ g, w6 = plus wr g := by obtain ⟨_, rfl⟩ := hg6; (repeat (first | with_reducible exact grew_refl _ | with_reducible assumption | with_reducible refine grew_split ?_ | with_reducible refine grew_mk ?_ | with_reducible refine grew_plus ?_ | with_reducible refine grew_alloc ?_ | with_reducible refine grew_drew ?_ | (with_reducible refine grew_set ?_ (by first | exact Nat.le_refl _ | omega | (simp [go_sem]; done) | (simp [go_sem]; omega)))))
  clear hS3 hO3 hg6
  have HP7 := hid (blk_grew HP6.out hgw6)
  have HR7 := hid (blk_grew HR6.out hgw6)
  have HB7 := hid (blk_grew HB.out hgw6)
  have hp7 := HP7.out
  have hr7 := HR7.out
  have hb7 := HB7.out
  have hgw7 := grew_two' HG.out hgw6
  clear hd0 hd1 hd2 hd3 hd4 hd5 hd6 hd7 hd8 hd9 he0 he1 he2 he3 he4 he5 he6 he7 he8 he9 fd0 fd1 fd2 fd3 fd4 fd5 fd6 fd7 fd8 fd9 fe0 fe1 fe2 fe3 fe4 fe5 fe6 fe7 fe8 fe9 hx0 hx1 hx2 hx3 hx4 hx5 hx6 hx7 hx8 hx9
  clear HO HG HB HR6 HP6 hbl hrl hpl hgw6
  have hpl := hp7.lt
  have hbl := hb7.lt
  have hrl := hr7.lt
  (have hx0 := hp7.cell 0; have hx1 := hp7.cell 1; have hx2 := hp7.cell 2; have hx3 := hp7.cell 3; have hx4 := hp7.cell 4; have hx5 := hp7.cell 5; have hx6 := hp7.cell 6; have hx7 := hp7.cell 7; have hx8 := hp7.cell 8; have hx9 := hp7.cell 9; simp [go_sem] at hx0 hx1 hx2 hx3 hx4 hx5 hx6 hx7 hx8 hx9)
  (have hd0 := hb7.cell 0; have hd1 := hb7.cell 1; have hd2 := hb7.cell 2; have hd3 := hb7.cell 3; have hd4 := hb7.cell 4; have hd5 := hb7.cell 5; have hd6 := hb7.cell 6; have hd7 := hb7.cell 7; have hd8 := hb7.cell 8; have hd9 := hb7.cell 9; simp [go_sem] at hd0 hd1 hd2 hd3 hd4 hd5 hd6 hd7 hd8 hd9)
  (have he0 := hr7.cell 0; have he1 := hr7.cell 1; have he2 := hr7.cell 2; have he3 := hr7.cell 3; have he4 := hr7.cell 4; have he5 := hr7.cell 5; have he6 := hr7.cell 6; have he7 := hr7.cell 7; have he8 := hr7.cell 8; have he9 := hr7.cell 9; simp [go_sem] at he0 he1 he2 he3 he4 he5 he6 he7 he8 he9)
  (have fd0 := hb7.frozen 0; have fd1 := hb7.frozen 1; have fd2 := hb7.frozen 2; have fd3 := hb7.frozen 3; have fd4 := hb7.frozen 4; have fd5 := hb7.frozen 5; have fd6 := hb7.frozen 6; have fd7 := hb7.frozen 7; have fd8 := hb7.frozen 8; have fd9 := hb7.frozen 9)
  (have fe0 := hr7.frozen 0; have fe1 := hr7.frozen 1; have fe2 := hr7.frozen 2; have fe3 := hr7.frozen 3; have fe4 := hr7.frozen 4; have fe5 := hr7.frozen 5; have fe6 := hr7.frozen 6; have fe7 := hr7.frozen 7; have fe8 := hr7.frozen 8; have fe9 := hr7.frozen 9)
  have HG7 := hid hgw7
  clear hp7 hr7 hb7 hgw7
  go_wp2_with fail
  refine (s_l28Own ⟨p.1, A3, c3⟩ l _ (HS3.out.grew (by (repeat (first | with_reducible exact grew_refl _ | with_reducible assumption | with_reducible refine grew_split ?_ | with_reducible refine grew_mk ?_ | with_reducible refine grew_plus ?_ | with_reducible refine grew_alloc ?_ | with_reducible refine grew_drew ?_ | (with_reducible refine grew_set ?_ (by first | exact Nat.le_refl _ | omega | (simp [go_sem]; done) | (simp [go_sem]; omega))))))) hpl8).mono ?_
  rintro e w' ⟨⟨A2, c2, rfl, hO2⟩, g2, rfl⟩
  have HO2 := hid hO2
  clear hO2
  go_upto_region 10 with fail
  have hzw := (below_of_grew HG7.out).size
  refine opq_wp (fun wr => Blk wr w.heap.size 30 #[.int .i64 (v.core).minute, .int .i64 (v.core).state, .slice v.A (v.core).lines.length v.c, .int .i64 (v.core).line, .int .i64 (v.core).since, .int .i64 (v.core).cast, .int .i64 (v.core).fuel, .string (l).d, .string (l).p, .int .i64 (l).n] ∧ Blk wr (w.heap.size + 1) 30 #[.int .i64 0, .int .i64 0, .slice none 0 0, .int .i64 0, .int .i64 0, .int .i64 0, .int .i64 0, .string ⟨#[]⟩, .string ⟨#[]⟩, .int .i64 0] ∧ Blk wr b6 30 #[.int .i64 (p.1).minute, .int .i64 (p.1).state, .slice A2 (p.1).lines.length c2, .int .i64 (p.1).line, .int .i64 (p.1).since, .int .i64 (p.1).cast, .int .i64 (p.1).fuel, .string (l).d, .string (l).p, .int .i64 (l).n] ∧ OwnF (w.heap.size + 2) 80 2 LineR.row wr A2 (p.1).lines ∧ ∃ g, wr = plus w g) ⟨?_, ?_, ?_, ?_, ?_⟩ ?_
  · exact HP7.out.grown (row := some b6) (by (repeat (first | with_reducible exact grown_refl _ _ | with_reducible assumption | with_reducible refine gb_plus ?_ | with_reducible refine gb_alloc ?_ | with_reducible refine gb_drew ?_ | with_reducible refine grown_set ?_))) (fun e => by injection e with e; omega)
  · exact HR7.out.grown (row := some b6) (by (repeat (first | with_reducible exact grown_refl _ _ | with_reducible assumption | with_reducible refine gb_plus ?_ | with_reducible refine gb_alloc ?_ | with_reducible refine gb_drew ?_ | with_reducible refine grown_set ?_))) (fun e => by injection e with e; omega)
  · have h := ((((((((((HB7.out.set_ 0 (.int .i64 p.1.minute)).set_ 1 (.int .i64 p.1.state)).set_ 2 (.slice A2 p.1.lines.length c2)).set_ 3 (.int .i64 p.1.line)).set_ 4 (.int .i64 p.1.since)).set_ 5 (.int .i64 p.1.cast)).set_ 6 (.int .i64 p.1.fuel)).set_ 7 (.string l.d)).set_ 8 (.string l.p)).set_ 9 (.int .i64 l.n))
    simp only [List.setIfInBounds_toArray, List.set_cons_zero, List.set_cons_succ] at h
    exact Blk.plus (Blk.alloc h _) _
  · exact OwnF.less (OwnF.base HO2.out (by first | exact Nat.le_refl _ | (simp [go_sem]; done) | (simp [go_sem]; omega)) (by simp [go_sem])) (by first | (simp [go_sem]; done) | (simp [go_sem]; omega))
  · have hg := HG7.out
    (repeat (first | with_reducible exact grew_refl _ | with_reducible assumption | with_reducible refine grew_split ?_ | with_reducible refine grew_mk ?_ | with_reducible refine grew_plus ?_ | with_reducible refine grew_alloc ?_ | with_reducible refine grew_drew ?_ | (with_reducible refine grew_set ?_ (by first | exact Nat.le_refl _ | omega | (simp [go_sem]; done) | (simp [go_sem]; omega)))))
  clear hd0 hd1 hd2 hd3 hd4 hd5 hd6 hd7 hd8 hd9 he0 he1 he2 he3 he4 he5 he6 he7 he8 he9 fd0 fd1 fd2 fd3 fd4 fd5 fd6 fd7 fd8 fd9 fe0 fe1 fe2 fe3 fe4 fe5 fe6 fe7 fe8 fe9 hx0 hx1 hx2 hx3 hx4 hx5 hx6 hx7 hx8 hx9
  clear HS3 HG7 HB7 HR7 HP7 HO2 hbl hrl hpl
  rintro wr ⟨hP, hR, hB, hO, hg⟩
  have HR6 := hid hR
  have HP6 := hid hP
  have hpl := hP.lt
  have hbl := hB.lt
  have hrl := hR.lt
  (have hx0 := hP.cell 0; have hx1 := hP.cell 1; have hx2 := hP.cell 2; have hx3 := hP.cell 3; have hx4 := hP.cell 4; have hx5 := hP.cell 5; have hx6 := hP.cell 6; have hx7 := hP.cell 7; have hx8 := hP.cell 8; have hx9 := hP.cell 9; simp [go_sem] at hx0 hx1 hx2 hx3 hx4 hx5 hx6 hx7 hx8 hx9)
  (have hd0 := hB.cell 0; have hd1 := hB.cell 1; have hd2 := hB.cell 2; have hd3 := hB.cell 3; have hd4 := hB.cell 4; have hd5 := hB.cell 5; have hd6 := hB.cell 6; have hd7 := hB.cell 7; have hd8 := hB.cell 8; have hd9 := hB.cell 9; simp [go_sem] at hd0 hd1 hd2 hd3 hd4 hd5 hd6 hd7 hd8 hd9)
  (have he0 := hR.cell 0; have he1 := hR.cell 1; have he2 := hR.cell 2; have he3 := hR.cell 3; have he4 := hR.cell 4; have he5 := hR.cell 5; have he6 := hR.cell 6; have he7 := hR.cell 7; have he8 := hR.cell 8; have he9 := hR.cell 9; simp [go_sem] at he0 he1 he2 he3 he4 he5 he6 he7 he8 he9)
  (have fd0 := hB.frozen 0; have fd1 := hB.frozen 1; have fd2 := hB.frozen 2; have fd3 := hB.frozen 3; have fd4 := hB.frozen 4; have fd5 := hB.frozen 5; have fd6 := hB.frozen 6; have fd7 := hB.frozen 7; have fd8 := hB.frozen 8; have fd9 := hB.frozen 9)
  (have fe0 := hR.frozen 0; have fe1 := hR.frozen 1; have fe2 := hR.frozen 2; have fe3 := hR.frozen 3; have fe4 := hR.frozen 4; have fe5 := hR.frozen 5; have fe6 := hR.frozen 6; have fe7 := hR.frozen 7; have fe8 := hR.frozen 8; have fe9 := hR.frozen 9)
  have HO := hid hO
  have HG := hid hg
  have HB := hid hB
  clear hP hB hR hO hg
  have HF0 : Hid (exeF v.core l line = (p.1, (appF l ⟨line, cutR p.2⟩).1, cutR p.2)) := hid HFM.out
  clear HFM
  by_cases hlong : 200 < p.2.size
  · have HF : Hid (exeF v.core l line = (p.1, (appF l ⟨line, bs [108, 111, 110, 103]⟩).1, bs [108, 111, 110, 103])) := hid (by rw [HF0.out, cutR, if_pos hlong])
    have hlI : (200 : Int) < (p.2.size : Int) := by omega
    clear HF0 hlong
    go_wp2_with fail
    (have hzw := (below_of_grew HG.out).size; refine (s_AppendRecord l ⟨line, bs [108, 111, 110, 103]⟩ _ h1 h2 (by unfold maxLen; simp only; omega) (show (bs [108, 111, 110, 103]).size ≤ maxLen by decide) (HE.out.grew (grew_two' HG.out (by (repeat (first | with_reducible exact grew_refl _ | with_reducible assumption | with_reducible refine grew_split ?_ | with_reducible refine grew_mk ?_ | with_reducible refine grew_plus ?_ | with_reducible refine grew_alloc ?_ | with_reducible refine grew_drew ?_ | (with_reducible refine grew_set ?_ (by first | exact Nat.le_refl _ | omega | (simp [go_sem]; done) | (simp [go_sem]; omega))))))))).mono ?_; rintro e w' ⟨rfl, gx, rfl⟩; go_wp2_with fail; refine bodyPost_ret (v := .tuple #[ConV.val ⟨⟨p.1, A2, c2⟩, ((appF l ⟨line, (bs [108, 111, 110, 103])⟩).1)⟩, .string (bs [108, 111, 110, 103])]) (by simp [results, Tryz.results9, go_sem, *]; try rfl) rfl ?_; have hg := HG.out; refine ⟨⟨A2, c2, by rw [HF.out], ?_⟩, by (repeat (first | with_reducible exact grew_refl _ | with_reducible assumption | with_reducible refine grew_split ?_ | with_reducible refine grew_mk ?_ | with_reducible refine grew_plus ?_ | with_reducible refine grew_alloc ?_ | with_reducible refine grew_drew ?_ | (with_reducible refine grew_set ?_ (by first | exact Nat.le_refl _ | omega | (simp [go_sem]; done) | (simp [go_sem]; omega)))))⟩; rw [HF.out]; have h1 := OwnF.apart (w' := ((wr.setCell ⟨b6, 7, none⟩ (.string (appF l ⟨line, (bs [108, 111, 110, 103])⟩).1.d)).setCell ⟨b6, 8, none⟩ (.string (appF l ⟨line, (bs [108, 111, 110, 103])⟩).1.p)).setCell ⟨b6, 9, none⟩ (.int .i64 (appF l ⟨line, (bs [108, 111, 110, 103])⟩).1.n)) HO.out HB.out (by decide) (grown_set (grown_set (grown_set (grown_refl _ _)))); exact (OwnF.kept h1 (row := some (w.heap.size + 1)) (by (repeat (first | with_reducible exact grown_refl _ _ | with_reducible assumption | with_reducible refine gb_plus ?_ | with_reducible refine gb_alloc ?_ | with_reducible refine gb_drew ?_ | with_reducible refine grown_set ?_))) (fun k hk => by injection hk with hk; omega)).less (by omega))
  · have HF : Hid (exeF v.core l line = (p.1, (appF l ⟨line, p.2⟩).1, p.2)) := hid (by rw [HF0.out, cutR, if_neg hlong])
    have hlI : ¬ (200 : Int) < (p.2.size : Int) := by omega
    clear HF0
    go_wp2_with fail
    (have hzw := (below_of_grew HG.out).size; refine (s_AppendRecord l ⟨line, p.2⟩ _ h1 h2 (by unfold maxLen; simp only; omega) (by unfold maxLen; simp only; omega) (HE.out.grew (grew_two' HG.out (by (repeat (first | with_reducible exact grew_refl _ | with_reducible assumption | with_reducible refine grew_split ?_ | with_reducible refine grew_mk ?_ | with_reducible refine grew_plus ?_ | with_reducible refine grew_alloc ?_ | with_reducible refine grew_drew ?_ | (with_reducible refine grew_set ?_ (by first | exact Nat.le_refl _ | omega | (simp [go_sem]; done) | (simp [go_sem]; omega))))))))).mono ?_; rintro e w' ⟨rfl, gx, rfl⟩; go_wp2_with fail; refine bodyPost_ret (v := .tuple #[ConV.val ⟨⟨p.1, A2, c2⟩, ((appF l ⟨line, p.2⟩).1)⟩, .string p.2]) (by simp [results, Tryz.results9, go_sem, *]; try rfl) rfl ?_; have hg := HG.out; refine ⟨⟨A2, c2, by rw [HF.out], ?_⟩, by (repeat (first | with_reducible exact grew_refl _ | with_reducible assumption | with_reducible refine grew_split ?_ | with_reducible refine grew_mk ?_ | with_reducible refine grew_plus ?_ | with_reducible refine grew_alloc ?_ | with_reducible refine grew_drew ?_ | (with_reducible refine grew_set ?_ (by first | exact Nat.le_refl _ | omega | (simp [go_sem]; done) | (simp [go_sem]; omega)))))⟩; rw [HF.out]; have h1 := OwnF.apart (w' := ((wr.setCell ⟨b6, 7, none⟩ (.string (appF l ⟨line, p.2⟩).1.d)).setCell ⟨b6, 8, none⟩ (.string (appF l ⟨line, p.2⟩).1.p)).setCell ⟨b6, 9, none⟩ (.int .i64 (appF l ⟨line, p.2⟩).1.n)) HO.out HB.out (by decide) (grown_set (grown_set (grown_set (grown_refl _ _)))); exact (OwnF.kept h1 (row := some (w.heap.size + 1)) (by (repeat (first | with_reducible exact grown_refl _ _ | with_reducible assumption | with_reducible refine gb_plus ?_ | with_reducible refine gb_alloc ?_ | with_reducible refine gb_drew ?_ | with_reducible refine grown_set ?_))) (fun k hk => by injection hk with hk; omega)).less (by omega))
end Go.Proofs.YtecghfcgahgfiaaGreatDoor
/- Marks of days, and what is held of them. -/
namespace Go.Proofs.YtecghfcgahgfiaaGreatDoor
open Go.RowKit

def markL (m : Int) (i : Nat) : LineR := ⟨m + 2 * (i : Int), (m + 2 * (i : Int) + 1) % 3 == 0⟩
def marksL (m : Int) (n : Nat) : List LineR := (List.range n).map (markL m)
theorem marksL_len (k : Int) (n : Nat) : (marksL k n).length = n := by simp [marksL]
theorem marksL_get (k : Int) (n i : Nat) (hi : i < (marksL k n).length) : (marksL k n)[i] = markL k i := by simp [marksL]
theorem LineR.row_len (r : LineR) : r.row.length = 2 := rfl
end Go.Proofs.YtecghfcgahgfiaaGreatDoor
