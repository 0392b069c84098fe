/- A list of rows of two numbers that grows by append. -/
import Derived.Test.YtjlaidjogladaaaLp1
namespace Go.Proofs.Ytjlaidjogladaaa
open Go.RowKit

/-- A list of rows that grows: it lies in a row of its own, and so does each of its rows. -/
structure POwn (lo : Nat) (w : World) (A : Option Addr) (c : Nat) (M : List PairV) : Prop where
  own : Own lo 40 1 PairV.row w A c M
  row : ∀ j (hj : j < M.length), OwnF lo 3 1 intRow w (some ⟨M[j].g, 0, none⟩) [M[j].a, M[j].b] ∧ lo ≤ M[j].g ∧ M[j].g < w.heap.size
  dis : ∀ i j (hi : i < M.length) (hj : j < M.length), M[i].g = M[j].g → i = j
  ne : ∀ p ∈ M, ∀ a, A = some a → a.block ≠ p.g
theorem POwn.mark {lo : Nat} {w : World} {A : Option Addr} {c : Nat} {M : List PairV} (h : POwn lo w A c M) : PMark lo w.heap.size w A M :=
  ⟨h.own.f PairV.row_len, h.row, h.dis, h.ne⟩
theorem POwn.grew {lo : Nat} {w w' : World} {A : Option Addr} {c : Nat} {M : List PairV} (h : POwn lo w A c M) (hg : ∃ g, w' = plus w g) : POwn lo w' A c M :=
  ⟨h.own.grew hg, fun j hj => ⟨(h.row j hj).1.grew hg, (h.row j hj).2.1, Nat.lt_of_lt_of_le (h.row j hj).2.2 (below_of_grew hg).size⟩, h.dis, h.ne⟩
theorem POwn.less {lo lo' : Nat} {w : World} {A : Option Addr} {c : Nat} {M : List PairV} (h : POwn lo w A c M) (hl : lo' ≤ lo) : POwn lo' w A c M :=
  ⟨h.own.less hl, fun j hj => ⟨(h.row j hj).1.less hl, by have := (h.row j hj).2.1; omega, (h.row j hj).2.2⟩, h.dis, h.ne⟩
theorem POwn.nil {lo : Nat} {w : World} {A : Option Addr} {c : Nat} (h : Own lo 40 1 PairV.row w A c []) : POwn lo w A c [] :=
  ⟨h, fun j hj => absurd hj (by simp), fun i j hi => absurd hi (by simp), fun p hp => absurd hp (by simp)⟩
theorem row_new {B b : Nat} {w w' : World} {x y : Int} (hg : ∃ g, w' = plus (w.alloc (.cells #[.int .i64 x, .int .i64 y] 3)) g) (hb : b = w.heap.size) (hB : B ≤ b) : OwnF B 3 1 intRow w' (some ⟨b, 0, none⟩) [x, y] := by
  refine .inr ⟨b, #[.int .i64 x, .int .i64 y], rfl, hB, blk_grew (blk_new hb) hg, by simp, ?_⟩
  intro i hi h j u hu
  match i, hi with
  | 0, _ => match j, hu with
    | 0, hu => simpa [intRow] using hu
  | 1, _ => match j, hu with
    | 0, hu => simpa [intRow] using hu
/-- One more row. -/
theorem POwn.app {lo n d : Nat} {w w1 w' : World} {A A' : Option Addr} {c c' : Nat} {M : List PairV} (h : POwn lo w A c M) (hg : ∃ g, w1 = plus w g) (y : PairV)
    (hy : OwnF lo 3 1 intRow w1 (some ⟨y.g, 0, none⟩) [y.a, y.b]) (hy1 : w.heap.size ≤ y.g) (hy2 : y.g < w1.heap.size) (hO : Own lo 40 1 PairV.row w' A' c' (M ++ [y]))
    (hgr : w1.grownBy w' (Value.slice A n d).ownBlock) (hat : ∀ a', A' = some a' → (∃ a0, A = some a0 ∧ a0.block = a'.block) ∨ a'.block = w1.heap.size) : POwn lo w' A' c' (M ++ [y]) := by
  have hs := (below_of_grew hg).size
  have hfar : ∀ a, A = some a → lo ≤ a.block ∧ a.block < w.heap.size := fun a ha => h.own.ne a ha
  have keep : ∀ {g : Nat} {l : List Int}, OwnF lo 3 1 intRow w1 (some ⟨g, 0, none⟩) l → (∀ a, A = some a → a.block ≠ g) → OwnF lo 3 1 intRow w' (some ⟨g, 0, none⟩) l := by
    intro g l hl hne
    rcases hl with hl | ⟨k, cs, he, hb, hB, hz, hF⟩
    · exact .inl hl
    · injection he with he
      injection he with he
      subst he
      exact .inr ⟨g, cs, rfl, hb, blk_kept hB hgr hne, hz, hF⟩
  have hlen : (M ++ [y]).length = M.length + 1 := by simp
  refine ⟨hO, ?_, ?_, ?_⟩
  · intro j hj
    by_cases e : j < M.length
    · have hr := h.row j e
      have hne := h.ne M[j] (List.getElem_mem e)
      rw [List.getElem_append_left e]
      exact ⟨keep (hr.1.grew hg) hne, hr.2.1, Nat.lt_of_lt_of_le (Nat.lt_of_lt_of_le hr.2.2 hs) hgr.size⟩
    · obtain rfl : j = M.length := by omega
      rw [List.getElem_concat_length rfl]
      exact ⟨keep hy (fun a ha => by have := hfar a ha; omega), by rcases hy with hy | ⟨k, cs, he, hb, _⟩; (· cases hy); (· injection he with he; injection he with he; omega), Nat.lt_of_lt_of_le hy2 hgr.size⟩
  · intro i j hi hj he
    by_cases ei : i < M.length <;> by_cases ej : j < M.length
    · rw [List.getElem_append_left ei, List.getElem_append_left ej] at he
      exact h.dis i j ei ej he
    · obtain rfl : j = M.length := by omega
      rw [List.getElem_append_left ei, List.getElem_concat_length rfl] at he
      have := (h.row i ei).2.2
      omega
    · obtain rfl : i = M.length := by omega
      rw [List.getElem_append_left ej, List.getElem_concat_length rfl] at he
      have := (h.row j ej).2.2
      omega
    · omega
  · intro p hp a' ha' e
    rcases hat a' ha' with ⟨a0, h0, h1⟩ | h1
    · rcases List.mem_append.1 hp with hp | hp
      · exact h.ne p hp a0 h0 (by omega)
      · simp at hp
        subst hp
        have := hfar a0 h0
        omega
    · rcases List.mem_append.1 hp with hp | hp
      · obtain ⟨j, hj, rfl⟩ := List.mem_iff_getElem.1 hp
        have := (h.row j hj).2.2
        omega
      · simp at hp
        subst hp
        omega
/-- The list may be told anew where one of its own boxes has been written. -/
theorem ab_app (M : List PairV) (y : PairV) : (M ++ [y]).map PairV.ab = M.map PairV.ab ++ [(y.a, y.b)] := by simp [PairV.ab]
end Go.Proofs.Ytjlaidjogladaaa
