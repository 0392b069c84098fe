/- What the laws on logs ask of appended, crashed and recovered logs. No program in sight. -/
import Derived.Test.YtfnbbmhhilffeaaDoorGLa
import Derived.Test.YtfnbbmhhilffeaaDoorH2
import Derived.Test.YtfnbbmhhilffeaaDoorH3
import Derived.Test.YtfnbbmhhilffeaaDoorH5
namespace Go.Proofs.YtfnbbmhhilffeaaDoor
open Go.RowKit

theorem extract_all (s : ByteArray) : s.extract 0 s.size = s := by simp
theorem appF_back {l : LogR} {e : RecR} (h : (appF l e).2 ≠ 0) : (appF l e).1 = l := by
  unfold appF at h ⊢
  split
  · rename_i h1
    rw [if_pos h1] at h
    split
    · rfl
    · rename_i h2
      rw [if_neg h2] at h
      exact absurd rfl h
  · rfl
theorem appF_good {l : LogR} {e : RecR} (h : (appF l e).2 = 0) : l.ok = true ∧ e.ok = true ∧ l.n < 60 ∧ (appF l e).1 = ⟨l.d, l.p ++ lineV l.n.toNat e, l.n + 1⟩ := by
  unfold appF at h ⊢
  split
  · rename_i h1
    rw [if_pos h1] at h
    simp only [Bool.and_eq_true] at h1
    split
    · rename_i h2
      rw [if_pos h2] at h
      simp at h
    · rename_i h2
      have := LogR.count h1.1
      exact ⟨h1.1, h1.2, by omega, rfl⟩
  · rename_i h1
    rw [if_neg h1] at h
    simp at h
theorem LogR.whole {l : LogR} (h : l.ok = true) : endOf (opensF (bl (l.d ++ l.p))) = (bl (l.d ++ l.p)).length := by
  rw [bl_len]; exact (l.ok_iff.1 h).1
theorem LogR.small {l : LogR} (h : l.ok = true) : (l.d ++ l.p).size ≤ 22320 := by
  rw [← (l.ok_iff.1 h).1]; exact (opensF_end _).2
/-- The records of a log to which a record is added. -/
theorem app_recs {l : LogR} {e : RecR} (h : l.ok = true) (he : e.ok = true) (hn : l.n < 60) :
    LogR.recs ⟨l.d, l.p ++ lineV l.n.toNat e, l.n + 1⟩ = l.recs ++ [(e, (e.line l.n.toNat).length + 1)] := by
  obtain ⟨_, h2, _⟩ := l.ok_iff.1 h
  have h0 := (LogR.count h).1
  have hk : l.n.toNat = l.recs.length := by omega
  have hb : bl (l.d ++ (l.p ++ lineV l.n.toNat e)) = bl (l.d ++ l.p) ++ (e.line l.n.toNat ++ [10]) := by simp only [bl_app, lineV_bytes, List.append_assoc]
  unfold LogR.recs at hk ⊢
  simp only
  rw [hb, opensF_join (LogR.whole h), ← hk, opens_one he (by omega) (by omega)]
theorem app_ok {l : LogR} {e : RecR} (h : l.ok = true) (he : e.ok = true) (hn : l.n < 60) : LogR.ok ⟨l.d, l.p ++ lineV l.n.toNat e, l.n + 1⟩ = true := by
  have hr := app_recs h he hn
  obtain ⟨h1, h2, j, h3, h4⟩ := l.ok_iff.1 h
  rw [LogR.ok_iff, hr]
  refine ⟨?_, ?_, j, ?_, ?_⟩
  · have h5 := bl_len (lineV l.n.toNat e)
    rw [lineV_bytes] at h5
    rw [endOf_app, h1]
    simp only [ByteArray.size_append] at h1 ⊢
    simp [endOf] at h5 ⊢
    omega
  · simp; omega
  · simp; omega
  · unfold endAt at h4 ⊢
    rw [List.take_append_of_le_length h3]
    exact h4
/-- What is recovered from the bytes of a log is the synchronized log. -/
theorem recov_sync {l : LogR} (h : l.ok = true) : recovF (l.d ++ l.p) = (⟨l.d ++ l.p, ⟨#[]⟩, l.n⟩, ((l.d ++ l.p).size : Int), true) ∧ syncF l = (⟨l.d ++ l.p, ⟨#[]⟩, l.n⟩, true) := by
  obtain ⟨h1, h2, _⟩ := l.ok_iff.1 h
  have h3 := LogR.small h
  unfold LogR.recs at h1 h2
  refine ⟨?_, by unfold syncF; rw [if_pos h]⟩
  unfold recovF
  rw [if_neg (by omega), h1, h2, extract_all]
theorem lrF_recs {l : LogR} (h : l.ok = true) : lrF l = l.recs.map (·.1) := by
  unfold lrF recsL
  rw [if_pos h, List.take_length]
/-- The law on logs, told of what its functions return. -/
theorem log_law {l : LogR} {e : RecR} (h : (appF l e).2 = 0) : (appF l e).1.ok = true ∧ lrF (appF l e).1 = lrF l ++ [e] ∧ (appF l e).1.n = ((lrF (appF l e).1).length : Int)
    ∧ recovF ((appF l e).1.d ++ (appF l e).1.p) = ((syncF (appF l e).1).1, (((appF l e).1.d ++ (appF l e).1.p).size : Int), true) ∧ (syncF (appF l e).1).2 = true := by
  obtain ⟨h1, h2, h3, h4⟩ := appF_good h
  have h5 := app_ok h1 h2 h3
  have h6 := app_recs h1 h2 h3
  rw [← h4] at h5 h6
  have h7 := lrF_recs h5
  rw [h6, List.map_append, ← lrF_recs h1] at h7
  obtain ⟨h8, h9⟩ := recov_sync h5
  refine ⟨h5, h7, ?_, by rw [h8, h9], by rw [h9]⟩
  have := ((appF l e).1.ok_iff.1 h5).2.1
  rw [lrF_recs h5, List.length_map]
  omega
/-- What is recovered is whole. -/
theorem recov_ok {s : ByteArray} (h : s.size ≤ 30000) : (recovF s).1.ok = true ∧ (recovF s).2.2 = true := by
  have hE := (opensF_end (bl s)).1
  rw [bl_len] at hE
  unfold recovF
  rw [if_neg (by omega)]
  refine ⟨?_, rfl⟩
  have hb : bl (s.extract 0 (endOf (opensF (bl s)))) = (bl s).take (endOf (opensF (bl s))) := by rw [bl_extract]; simp
  have hr : LogR.recs ⟨s.extract 0 (endOf (opensF (bl s))), ⟨#[]⟩, (opensF (bl s)).length⟩ = opensF (bl s) := by
    unfold LogR.recs
    simp only [bl_app]
    rw [hb]
    show opensF (_ ++ []) = _
    rw [List.append_nil, opensF_part]
  rw [LogR.ok_iff, hr]
  have hz : (s.extract 0 (endOf (opensF (bl s)))).size = endOf (opensF (bl s)) := by simp; omega
  refine ⟨?_, rfl, (opensF (bl s)).length, Nat.le_refl _, ?_⟩
  · simp only [ByteArray.size_append, hz]; rfl
  · simp only [hz]; exact endAt_len _
theorem recov_fix {s : ByteArray} (h : s.size ≤ 30000) : syncF (recovF s).1 = ((recovF s).1, true) := by
  have h1 := (recov_ok h).1
  unfold syncF
  rw [if_pos h1]
  unfold recovF
  rw [if_neg (by omega)]
  simp only
  rw [show (⟨#[]⟩ : ByteArray) = ByteArray.empty from rfl, ByteArray.append_empty]
theorem recov_big {s : ByteArray} (h : ¬ s.size ≤ 30000) : recovF s = (zLog, 0, false) := by
  unfold recovF; rw [if_pos (by omega)]
/-- A line by itself is recovered at place 0 alone. -/
theorem line_first {e : RecR} (he : e.ok = true) {k : Nat} (hk : k < 60) : (k = 0 → recovF (lineV k e) = (⟨lineV k e, ⟨#[]⟩, 1⟩, ((lineV k e).size : Int), true)) ∧ (k ≠ 0 → (recovF (lineV k e)).2.1 = 0) := by
  have hz := lineV_size he hk
  have hb := lineV_bytes k e
  have hl := bl_len (lineV k e)
  constructor
  · rintro rfl
    have ho : opensF (bl (lineV 0 e)) = [(e, (e.line 0).length + 1)] := by
      rw [hb]; exact opens_one he (by omega) (by omega)
    have hq : endOf (opensF (bl (lineV 0 e))) = (lineV 0 e).size := by
      rw [ho, ← hl, hb]; simp [endOf]
    unfold recovF
    rw [if_neg (by omega), hq, extract_all, ho]
    rfl
  · intro hk0
    have ho : opensF (bl (lineV k e)) = [] := by
      cases hh : headB (e.line k ++ [10]) 0 with
      | none => rw [hb]; exact opens_succ_none hh
      | some p =>
        obtain ⟨x, n⟩ := p
        obtain ⟨_, h2, _, h4⟩ := headB_some hh
        have h5 := congrArg (fun s => (cutB 10 s).1) h4
        rw [cutB_app 10 _ _ (line_free he k), cutB_app 10 _ _ (line_free h2 0)] at h5
        exact absurd (line_place h5 he h2) hk0
    unfold recovF
    rw [if_neg (by omega), ho]
    rfl
/-- A log that has crashed: its records are a first part of those that there were, and all that were durable are among them. -/
theorem crash_law {l : LogR} {k : Int} {torn : Bool} (h : (crashF l k torn).2 = true) :
    l.ok = true ∧ (crashF l k torn).1.size ≤ 30000 ∧ l.d.size ≤ endOf (opensF (bl (crashF l k torn).1)) ∧ endOf (opensF (bl (crashF l k torn).1)) ≤ (crashF l k torn).1.size ∧ ∃ r, l.recs = opensF (bl (crashF l k torn).1) ++ r := by
  have hc : (l.ok && inB k 0 l.p.size) = true := by
    unfold crashF at h
    split at h
    · assumption
    · simp at h
  have hF : crashF l k torn = (l.d ++ mk (turnL (bl (l.p.extract 0 k.toNat)) torn), true) := by unfold crashF; rw [if_pos hc]
  simp only [Bool.and_eq_true] at hc
  obtain ⟨ho, hk⟩ := hc
  rw [hF]
  simp only
  have hs := LogR.small ho
  have hk2 : 0 ≤ k ∧ k ≤ l.p.size := by unfold inB at hk; simpa using hk
  obtain ⟨m, rfl⟩ := Int.eq_ofNat_of_zero_le hk2.1
  have hm : m ≤ (bl l.p).length := by rw [bl_len]; omega
  have hx : bl (l.p.extract 0 ((m : Int)).toNat) = (bl l.p).take m := by rw [bl_extract]; simp
  have hlow : ∀ c ∈ bl l.p, c.toNat < 128 := by
    intro c hc
    refine opens_low 61 (bl (l.d ++ l.p)) 0 (LogR.whole ho) c ?_
    rw [bl_app]; exact List.mem_append_right _ hc
  have hsp : Spoilt (bl l.p) (turnL ((bl l.p).take m) torn) := by
    cases torn
    · rw [turn_no]; exact spoilt_take _ m hm
    · cases m with
      | zero => rw [turn_nil (by simp)]; exact spoilt_take _ 0 hm
      | succ q =>
        have hl2 : ((bl l.p).take (q + 1)).length = q + 1 := by simp; omega
        rw [turn_last hl2 (by omega)]
        refine spoilt_last _ q hm _ ?_
        have hc := hlow (((bl l.p).take (q + 1))[q]) (List.mem_of_mem_take (List.getElem_mem _))
        intro he
        have := congrArg UInt8.toNat he
        have h3 := sub255 (((bl l.p).take (q + 1))[q])
        rw [he] at h3
        have h4 : ((10 : UInt8).toNat : Int) = 10 := rfl
        omega
  rw [hx]
  generalize turnL ((bl l.p).take m) torn = t at hsp
  have hb : bl (l.d ++ mk t) = bl l.d ++ t := by rw [bl_app]
  have hd : endOf (opensF (bl l.d)) = (bl l.d).length := by rw [bl_len]; exact LogR.end_d ho
  have ht := hsp.1
  rw [bl_len] at ht
  have hmk : (mk t).size = t.length := mk_size t
  obtain ⟨r, hr⟩ := opens_spoilt (61 - (opensF (bl l.d)).length) _ _ (opensF (bl l.d)).length hsp
  have h1 := opensF_join (t := t) hd
  have h2 := opensF_join (t := bl l.p) hd
  refine ⟨ho, ?_, ?_, ?_, r, ?_⟩
  · rw [ByteArray.size_append] at hs ⊢; omega
  · rw [hb, h1, endOf_app, hd, bl_len]; omega
  · have := (opensF_end (bl (l.d ++ mk t))).1
    rwa [bl_len] at this
  · unfold LogR.recs
    rw [bl_app, h2, hr, hb, h1, List.append_assoc]
end Go.Proofs.YtfnbbmhhilffeaaDoor
