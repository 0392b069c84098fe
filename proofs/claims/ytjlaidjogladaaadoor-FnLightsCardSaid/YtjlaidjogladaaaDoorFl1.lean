/- How many moments of a period are lit. Plain laws; no program in sight. -/
import Derived.Test.YtjlaidjogladaaaDoorLi3
namespace Go.Proofs.YtjlaidjogladaaaDoor

/-- How many of the first k tenths are lit. -/
def litN (l : List PhaseR) : Nat → Nat
  | 0 => 0
  | k + 1 => litN l k + if litAt l (k : Int) then 1 else 0
theorem litN_le (l : List PhaseR) : ∀ k, litN l k ≤ k := by
  intro k
  induction k with
  | zero => exact Nat.le_refl _
  | succ k ih => simp only [litN]; split <;> omega
theorem litN_head (p : PhaseR) (r : List PhaseR) : ∀ k : Nat, (k : Int) ≤ p.tenths → litN (p :: r) k = if p.lit then k else 0 := by
  intro k
  induction k with
  | zero => intro _; simp [litN]
  | succ k ih =>
    intro hk
    have hlt : (k : Int) < p.tenths := by omega
    simp only [litN, litAt, if_pos hlt, ih (by omega)]
    split <;> simp_all
theorem litN_tail (p : PhaseR) (r : List PhaseR) (h0 : 0 ≤ p.tenths) : ∀ k, litN (p :: r) (p.tenths.toNat + k) = (if p.lit then p.tenths.toNat else 0) + litN r k := by
  intro k
  induction k with
  | zero => simp only [Nat.add_zero, litN]; rw [litN_head p r _ (by omega)]
  | succ k ih =>
    have e : ((p.tenths.toNat + k : Nat) : Int) - p.tenths = (k : Int) := by omega
    have hlt : ¬ ((p.tenths.toNat + k : Nat) : Int) < p.tenths := by omega
    rw [← Nat.add_assoc]
    simp only [litN, litAt, if_neg hlt, e, ih]
    omega
theorem per_cons (p : PhaseR) (r : List PhaseR) : per (p :: r) = p.tenths.toNat + per r := by
  simp [per, perTo]
theorem litTo_cons (p : PhaseR) (r : List PhaseR) : litTo (p :: r) (p :: r).length = (if p.lit then p.tenths.toNat else 0) + litTo r r.length := by
  simp [litTo]
/-- The lit moments of a period are its lit tenths. -/
theorem litN_per : ∀ (l : List PhaseR), (∀ p ∈ l, 0 ≤ p.tenths) → litN l (per l) = litTo l l.length := by
  intro l
  induction l with
  | nil => intro _; rfl
  | cons p r ih =>
    intro h
    rw [per_cons, litN_tail p r (h p (by simp)), litTo_cons, ih (fun q hq => h q (by simp [hq]))]
/-- A light is lit again after its period. -/
theorem lit_again (l : List PhaseR) (m : Int) : litF l (m + (per l : Int)) = litF l m := by
  unfold litF
  rw [Int.add_emod_right]
theorem lit_small (l : List PhaseR) (k : Nat) (hk : k < per l) : litF l (k : Int) = litAt l (k : Int) := by
  unfold litF
  rw [Int.emod_eq_of_lt (by omega) (by omega)]
/-- The share of a good light. -/
theorem share_law {v : LightC} (h : v.ok = true) : litN v.ph (per v.ph) * (lshareF v).2.1 = (lshareF v).1 * per v.ph := by
  have hp := v.phok h
  have h1 : litN v.ph (per v.ph) = litTo v.ph v.ph.length := litN_per _ fun p hq => by
    obtain ⟨i, hi, rfl⟩ := List.mem_iff_getElem.1 hq
    have := hp.2.2 i hi
    omega
  have h2 : lshareF v = (litTo v.ph v.ph.length / Nat.gcd (litTo v.ph v.ph.length) (per v.ph), per v.ph / Nat.gcd (litTo v.ph v.ph.length) (per v.ph), true) := by simp [lshareF, h]
  rw [h1, h2]
  simp only
  generalize litTo v.ph v.ph.length = a
  generalize per v.ph = b
  obtain ⟨x, hx⟩ := Nat.gcd_dvd_left a b
  obtain ⟨y, hy⟩ := Nat.gcd_dvd_right a b
  by_cases hg : Nat.gcd a b = 0
  · rw [hg] at hx hy ⊢
    simp at hx hy
    subst hx hy
    simp
  · have e1 : a / Nat.gcd a b = x := by
      conv => lhs; lhs; rw [hx]
      exact Nat.mul_div_cancel_left _ (by omega)
    have e2 : b / Nat.gcd a b = y := by
      conv => lhs; lhs; rw [hy]
      exact Nat.mul_div_cancel_left _ (by omega)
    rw [e1, e2]
    conv => lhs; lhs; rw [hx]
    conv => rhs; rhs; rw [hy]
    generalize Nat.gcd a b = g
    rw [Nat.mul_comm g x, Nat.mul_assoc]
theorem share_size {v : LightC} : (lshareF v).1 ≤ 1600 ∧ (lshareF v).2.1 ≤ 1600 := by
  unfold lshareF
  split
  · rename_i h
    have hp := v.phok h
    have h1 := (hp.bound v.ph.length (Nat.le_refl _)).1
    have h2 := hp.per.2
    have h3 : perTo v.ph v.ph.length = per v.ph := rfl
    have h4 := Nat.div_le_self (litTo v.ph v.ph.length) (Nat.gcd (litTo v.ph v.ph.length) (per v.ph))
    have h5 := Nat.div_le_self (per v.ph) (Nat.gcd (litTo v.ph v.ph.length) (per v.ph))
    simp only
    omega
  · exact ⟨by decide, by decide⟩
end Go.Proofs.YtjlaidjogladaaaDoor
