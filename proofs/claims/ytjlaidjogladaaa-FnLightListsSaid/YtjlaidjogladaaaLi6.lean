/- Lists of lights with the same cores are alike in all that counts. -/
import Derived.Test.YtjlaidjogladaaaLi5
namespace Go.Proofs.Ytjlaidjogladaaa
open Go.RowKit

theorem Alike.symm {L M : List LightV} (h : Alike L M) : Alike M L := ⟨h.1.symm, fun i h1 h2 => (h.2 i h2 h1).symm⟩
theorem Alike.trans {L M N : List LightV} (h : Alike L M) (k : Alike M N) : Alike L N :=
  ⟨h.1.trans k.1, fun i h1 h2 => (h.2 i h1 (by have := h.1; omega)).trans (k.2 i (by have := h.1; omega) h2)⟩
theorem Alike.noNm {L M : List LightV} (h : Alike L M) (s : ByteArray) (k : Nat) : noNm L s k = Go.Proofs.Ytjlaidjogladaaa.noNm M s k := by
  refine allUpto_congr fun i _ => ?_
  by_cases hi : i < L.length
  · have hi' : i < M.length := by have := h.1; omega
    simp only [hi, hi', ↓reduceDIte, nmIs, h.2 i hi hi']
  · have hi' : ¬ i < M.length := by have := h.1; omega
    simp only [hi, hi', ↓reduceDIte]
theorem Alike.step {L M : List LightV} (h : Alike L M) (k : Nat) : ltStep L k = ltStep M k := by
  unfold ltStep
  by_cases hi : k < L.length
  · have hi' : k < M.length := by have := h.1; omega
    have hj : k - 1 < L.length := by omega
    have hj' : k - 1 < M.length := by omega
    simp only [hi, hi', ↓reduceDIte, h.2 k hi hi', h.2 (k - 1) hj hj', h.noNm]
  · have hi' : ¬ k < M.length := by have := h.1; omega
    simp only [hi, hi', ↓reduceDIte]
theorem Alike.good {L M : List LightV} (h : Alike L M) : lightsB L = lightsB M := by
  unfold lightsB
  rw [h.1, allUpto_congr fun k _ => h.step k]
theorem Alike.at_ {L M : List LightV} {w W : World} {B : Nat} {e : TypeId} (h : Alike L M) (hL : ∀ u ∈ L, u.At w) (hM : ∀ u ∈ M, OwnF B e 2 PhaseR.row W u.A u.core.ph) : ∀ u ∈ M, u.At W := by
  intro u hu
  obtain ⟨i, hi, rfl⟩ := List.mem_iff_getElem.1 hu
  have hi' : i < L.length := by have := h.1; omega
  have e1 := h.2 i hi' hi
  have h1 := hL L[i] (List.getElem_mem hi')
  exact ⟨(hM _ hu).sl, by rw [← e1]; exact h1.nm, by rw [← e1]; exact h1.len⟩
/-- A list of lights that lies in memory as it should. -/
structure Lts (w : World) (A : Option Addr) (L : List LightV) : Prop where
  sl : Sl w 6 LightV.row A L
  at_ : ∀ u ∈ L, u.At w
theorem Lts.grew {w w' : World} {A : Option Addr} {L : List LightV} (h : Lts w A L) (hg : ∃ g, w' = plus w g) : Lts w' A L := ⟨h.sl.grew hg, fun u hu => (h.at_ u hu).grew hg⟩
theorem l_toLts (L : List LightV) (A : Option Addr) (c : Nat) (w : World) (hA : Lts w A L) (hp : ∀ u ∈ L, u.core.ph.length ≤ 1048576) (hl : L.length ≤ 1048576) :
    Calls Try.prog 7 #[.slice A L.length c] w fun e' w' => (∃ (A' : Option Addr) (M : List LightV), e' = .returned (.slice A' M.length M.length) ∧ Alike L M ∧ OwnF w.heap.size 55 6 LightV.row w' A' M ∧ (∀ u ∈ M, OwnF w.heap.size 68 2 PhaseR.row w' u.A u.core.ph) ∧ Lts w' A' M) ∧ ∃ g, w' = plus w g := by
  refine (l_toLightS L A c w hA.sl hA.at_ hp hl).mono ?_
  rintro e w' ⟨⟨A', M, rfl, ha, ho, hr⟩, hg⟩
  exact ⟨⟨A', M, rfl, ha, ho, hr, ho.sl, ha.at_ hA.at_ hr⟩, hg⟩
theorem i_AreLts (L : List LightV) (A : Option Addr) (c : Nat) (o : Bool) (ho : lightsB L = o) (w : World) (hA : Lts w A L) (hl : L.length ≤ maxLen) (hcap : L.length ≤ c) :
    Calls Try.prog 27 #[.slice A L.length c] w fun e' w' => e' = .returned (.bool o) ∧ ∃ g, w' = plus w g := i_AreLights L A c o ho w hA.sl hA.at_ hl hcap
theorem l_eqLts (L M : List LightV) (A B : Option Addr) (c d : Nat) (w : World) (hM : Alike L M) (hA : Lts w A L) (hB : Lts w B M) (hl : L.length ≤ maxLen) :
    Calls Try.prog 10 #[.slice A L.length c, .slice B M.length d] w fun e' w' => e' = .returned (.bool true) ∧ ∃ g, w' = plus w g := l_eqLightS L M A B c d w hM hA.sl hB.sl hA.at_ hB.at_ hl
end Go.Proofs.Ytjlaidjogladaaa
