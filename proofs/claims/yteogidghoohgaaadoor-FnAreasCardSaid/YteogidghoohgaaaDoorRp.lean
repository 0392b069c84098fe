/- What the law on areas asks: the lines of a report, the share of a merged list. No program in sight. -/
import Derived.Test.YteogidghoohgaaaDoorB1
import Derived.Test.YteogidghoohgaaaDoorMc
import Derived.Test.YteogidghoohgaaaDoorNd
import Derived.Test.YteogidghoohgaaaDoorA6
namespace Go.Proofs.YteogidghoohgaaaDoor
open Go.RowKit

/-- How many line ends there are. -/
def nls (s : ByteArray) : Nat := s.data.toList.countP (fun c => c == 10)
theorem nls_app (a b : ByteArray) : nls (a ++ b) = nls a + nls b := by
  simp [nls, ByteArray.data_append, List.countP_append]
theorem dec_nls (u : Nat) : (Go.Lib.decDigits u).countP (fun c => c == 10) = 0 := by
  induction u using Nat.strongRecOn with
  | _ u ih =>
    have hd : ∀ v : Nat, v < 10 → ([UInt8.ofNat (48 + v)] : List UInt8).countP (fun c => c == 10) = 0 := by
      intro v hv
      rw [List.countP_eq_zero]
      intro c hc
      simp only [List.mem_singleton] at hc
      subst hc
      intro h
      rw [beq_iff_eq] at h
      have h2 := congrArg UInt8.toNat h
      rw [UInt8.toNat_ofNat'] at h2
      have h3 : (10 : UInt8).toNat = 10 := rfl
      omega
    by_cases h : u < 10
    · rw [Go.Lib.decDigits, dif_pos h]; exact hd u h
    · rw [Go.Lib.decDigits, dif_neg h, List.countP_append, ih (u / 10) (by omega), hd (u % 10) (by omega)]
theorem num_nls (n : Int) : nls (num n) = 0 := by
  unfold nls num Go.Lib.itoa
  split
  · simp only [List.countP_cons, dec_nls]; decide
  · exact dec_nls _
theorem word_nls {s : ByteArray} (h : wordB s = true) : nls s = 0 := by
  simp only [wordB, Bool.and_eq_true] at h
  rw [nls, List.countP_eq_zero]
  intro c hc hx
  have := List.all_eq_true.1 h.1 c hc
  rw [beq_iff_eq] at hx
  subst hx
  simp [lowB] at this
theorem areaC_nls {r : AreaR} (h : r.ok = true) : nls (areaC r) = 0 := by
  have hw : wordB r.nm = true := by simp only [AreaR.ok, Bool.and_eq_true] at h; exact h.1.1.1.1.1.1
  have ht : nls (tailT r) = 0 := by
    unfold tailT
    split
    · decide
    · simp only [nls_app, num_nls]
      decide
  simp only [areaC, nls_app, num_nls, word_nls hw, ht]
  decide
theorem linesT_nls {l : List AreaR} (hok : ∀ k (h : k < l.length), l[k].ok = true) : ∀ k, k ≤ l.length → nls (linesT l k) = k := by
  intro k
  induction k with
  | zero => intro _; rfl
  | succ k ih =>
    intro hk
    have h1 : nls nlA = 1 := by decide
    rw [linesT_step (by omega), nls_app, nls_app, ih (by omega), areaC_nls (hok k (by omega)), h1]
theorem reportT_nls {l : List AreaR} (h : areasB l = true) : nls (reportT l) = l.length := by
  have e1 : nls (bsA [100, 111, 110, 101, 58, 32]) = 0 := by decide
  have e2 : nls (bsA [32, 111, 102, 32]) = 0 := by decide
  simp only [reportT, nls_app, num_nls, e1, e2, linesT_nls (fun k hk => areasB_ok h hk) l.length (Nat.le_refl _)]
  rfl
theorem nls_take {s : ByteArray} {k : Nat} (h : k < s.size) : (s.data.toList.take (k + 1)).countP (fun c => c == 10) = (s.data.toList.take k).countP (fun c => c == 10) + if s[k] = 10 then 1 else 0 := by
  rw [List.take_succ_eq_append_getElem (by simpa using h), List.countP_append]
  congr 1
  simp only [List.countP_singleton, beq_iff_eq]
  rfl
/-! ### The share of a merged list -/
theorem sum_set (f : AreaR → Nat) : ∀ (l : List AreaR) (i : Nat) (x : AreaR) (h : i < l.length), ((l.set i x).map f).sum + f l[i] = (l.map f).sum + f x
  | a :: r, 0, x, _ => by simp; omega
  | a :: r, i + 1, x, h => by
    have := sum_set f r i x (by simpa using h)
    simp only [List.set_cons_succ, List.map_cons, List.sum_cons, List.getElem_cons_succ]
    omega
theorem sum_cut (f : AreaR → Nat) (l : List AreaR) (k : Nat) (h : k < l.length) : ((l.take k ++ l.drop (k + 1)).map f).sum + f l[k] = (l.map f).sum := by
  have e : l = l.take k ++ l[k] :: l.drop (k + 1) := by rw [← List.drop_eq_getElem_cons h, List.take_append_drop]
  conv => rhs; rw [e]
  simp only [List.map_append, List.sum_append, List.map_cons, List.sum_cons]
  omega
theorem merge_sum (f : AreaR → Nat) {l : List AreaR} {i k : Nat} (hi : i < l.length) (hk : k < l.length) (hne : i ≠ k) (x : AreaR) (hx : f x = f l[i] + f l[k]) : ((mergeP l x i k).map f).sum = (l.map f).sum := by
  have h1 := sum_set f l i x hi
  have h2 := sum_cut f (l.set i x) k (by simpa using hk)
  rw [List.getElem_set_ne (by omega)] at h2
  rw [mergeP]
  omega
theorem mergeP_len1 {l : List AreaR} {x : AreaR} {i k : Nat} (hk : k < l.length) : (mergeP l x i k).length = l.length - 1 := by
  simp only [mergeP, List.length_append, List.length_take, List.length_drop, List.length_set]; omega
theorem merge_share {l : List AreaR} {a b : ByteArray} {R : List AreaR} (h : mergeF l a b = (R, true)) : shareF l = shareF R ∧ (shareF l).2.2 = true ∧ R.length + 1 = l.length := by
  unfold mergeF at h
  split at h
  · rename_i hg
    split at h
    · rename_i x y hx hy
      split at h
      · cases h
      · rename_i hno
        split at h
        · rename_i hgm
          cases h
          obtain ⟨hi, rfl⟩ := List.getElem?_eq_some_iff.1 hx
          obtain ⟨hk, rfl⟩ := List.getElem?_eq_some_iff.1 hy
          have hne : (findI l a).toNat ≠ (findI l b).toNat := by omega
          have hl : ((mergeP l (bothR l[(findI l a).toNat] l[(findI l b).toNat]) (findI l a).toNat (findI l b).toNat)).length + 1 = l.length := by rw [mergeP_len1 hk]; omega
          have hl2 : 1 < l.length := by omega
          obtain ⟨_, _, a3, _⟩ := AreaR.bounds (areasB_ok hg hi)
          obtain ⟨_, _, b3, _⟩ := AreaR.bounds (areasB_ok hg hk)
          obtain ⟨a1, _⟩ := AreaR.bounds (areasB_ok hg hi)
          obtain ⟨b1, _⟩ := AreaR.bounds (areasB_ok hg hk)
          have h1 := merge_sum (fun r => r.cov.toNat) hi hk hne (bothR l[(findI l a).toNat] l[(findI l b).toNat]) (by simp only [bothR]; omega)
          have h2 := merge_sum (fun r => r.cells.toNat) hi hk hne (bothR l[(findI l a).toNat] l[(findI l b).toNat]) (by simp only [bothR]; omega)
          generalize mergeP l (bothR l[(findI l a).toNat] l[(findI l b).toNat]) (findI l a).toNat (findI l b).toNat = R at h1 h2 hl hgm
          have e1 : covTo R R.length = covTo l l.length := by simp only [covTo, List.take_length]; exact h1
          have e2 : cellsTo R R.length = cellsTo l l.length := by simp only [cellsTo, List.take_length]; exact h2
          rw [shareF_good hg (by omega), shareF_good hgm (by omega), e1, e2]
          exact ⟨rfl, rfl, hl⟩
        · cases h
    · cases h
  · cases h
theorem both_has {l : List AreaR} (h : areasB l = true) {k : Nat} (hk : k < l.length) : (hasT ((ordF undone gtWo l).map AreaR.nm) l[k].nm == hasT ((ordF doneR gtNo l).map AreaR.nm) l[k].nm) = false := by
  rw [ordF_has h hk, ordF_has h hk]
  unfold undone
  cases doneR l[k] <;> rfl
end Go.Proofs.YteogidghoohgaaaDoor
