/- Copies of lists of lights, as marking wants them. -/
import Derived.Test.YtjlaidjogladaaaLk1
namespace Go.Proofs.Ytjlaidjogladaaa
open Go.RowKit

theorem Room.less {lo lo' hi s n : Nat} {e : TypeId} {w : World} {A : Option Addr} (h : Room lo hi e s w A n) (hl : lo' ≤ lo) : Room lo' hi e s w A n := by
  rcases h with h | ⟨g, cs, rfl, h1, r⟩
  · exact .inl h
  · exact .inr ⟨g, cs, rfl, by omega, r⟩
theorem l_toLtsM (L : List LightV) (A : Option Addr) (c : Nat) (w : World) (hA : Lts w A L) (hp : ∀ u ∈ L, u.core.ph.length ≤ 1048576) (hl : L.length ≤ 1048576) :
    Calls Try.prog 7 #[.slice A L.length c] w fun e' w' => (∃ (A' : Option Addr) (M : List LightV), e' = .returned (.slice A' M.length M.length) ∧ Alike L M ∧ Lts w' A' M ∧ MarkL w.heap.size w'.heap.size w' A' M) ∧ ∃ g, w' = plus w g := by
  refine (l_toLightS0 L A c w hA.sl hA.at_ hp hl).mono ?_
  rintro e w' ⟨⟨M, rfl, ha, ho, hr⟩, hg⟩
  refine ⟨⟨_, M, rfl, ha, ⟨ho.sl, ha.at_ hA.at_ hr⟩, ho, ?_, ?_, ?_⟩, hg⟩
  · intro g hgA hne
    rcases OwnF.split ho with h | ⟨_, g', cs, e1, _, hB, _⟩
    · exact absurd h hne
    · injection hgA with e2
      injection e1 with e3
      have e4 := e2.symm.trans e3
      injection e4 with e5
      subst e5
      exact hB.lt
  · intro u hu
    exact (hr u hu).room.less (by omega)
  · intro u hu hpos g hgA hAu
    injection hgA with e2
    injection e2 with e3
    rcases OwnF.split (hr u hu) with h | ⟨_, g', cs, e1, hb, _⟩
    · rw [h] at hpos; simp at hpos
    · rw [e1] at hAu
      injection hAu with e4
      injection e4 with e5
      omega
end Go.Proofs.Ytjlaidjogladaaa
