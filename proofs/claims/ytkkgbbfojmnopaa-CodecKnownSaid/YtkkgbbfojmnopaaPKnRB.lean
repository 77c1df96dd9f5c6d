import Derived.WalkKit
import Derived.Test.YtkkgbbfojmnopaaPKnGx0
import Derived.Lib.ConvBytes
set_option linter.unusedVariables false
set_option linter.unusedSimpArgs false
section
namespace Go.Proofs.Ytkkgbbfojmnopaa.G
open Go.RowKit Go.Proofs.YtkkgbbfojmnopaaW.PrintWords Go.Proofs.YtkkgbbfojmnopaaW.PrintLast Go.Proofs.YtkkgbbfojmnopaaW.PrintMore
structure RB (W : World) (b n : Nat) (xs : List Int) : Prop where
  blk : ∃ (C : Array Value) (m : Nat), W.heap[b]? = some (.cells C 5 (m, m + 1)) ∧ n ≤ m ∧ n ≤ C.size ∧ ∀ j, j < n → C[j]? = some (.int .u8 (xs.getD j 0))
  len : xs.length = n
  sml : n ≤ 9223372036854775807
theorem RB.lt {W : World} {b n : Nat} {xs : List Int} (h : RB W b n xs) : b < W.heap.size := by
  obtain ⟨C, m, hb, _⟩ := h.blk
  exact blk_lt hb
theorem RB.below {W W' : World} {b n : Nat} {xs : List Int} (h : RB W b n xs) (hb : Below W.heap.size W W') : RB W' b n xs := by
  have hlt := h.lt
  obtain ⟨C, m, h1, h2⟩ := h.blk
  exact ⟨⟨C, m, (hb.block b hlt).trans h1, h2⟩, h.len, h.sml⟩
theorem RB.cell {W : World} {b n : Nat} {xs : List Int} (h : RB W b n xs) (j : Nat) (hj : j < n) : W.cell? ⟨b, j, none⟩ = some (.int .u8 (xs.getD j 0)) := by
  obtain ⟨C, m, h1, _, _, h2⟩ := h.blk
  rw [cell_of_row _ _ _ _ _ _ h1]
  exact h2 j hj
theorem RB.free {W : World} {b n : Nat} {xs : List Int} (h : RB W b n xs) (j : Nat) (hj : j < n) : W.frozen? ⟨b, j, none⟩ = false := by
  obtain ⟨C, m, h1, h2, _⟩ := h.blk
  simp only [World.frozen?, h1]
  simp
  omega
theorem RB.put {W : World} {b n : Nat} {xs : List Int} (h : RB W b n xs) (i : Nat) (x : Int) (hi : i < n) : RB (W.setCell ⟨b, i, none⟩ (.int .u8 x)) b n (xs.set i x) := by
  obtain ⟨C, m, h1, h2, h3, h4⟩ := h.blk
  refine ⟨⟨C.setIfInBounds i (.int .u8 x), m, by simp [World.setCell, Array.getElem?_modify, h1], h2, by simpa using h3, fun j hj => ?_⟩, by rw [List.length_set]; exact h.len, h.sml⟩
  have hl := h.len
  by_cases e : i = j
  · subst e
    rw [Array.getElem?_setIfInBounds_self_of_lt (by omega)]
    simp [List.getD, List.getElem?_set, show i < xs.length by omega]
  · rw [Array.getElem?_setIfInBounds_ne e, h4 j hj]
    simp [List.getD, List.getElem?_set, e]
theorem RB.reads {W : World} {b n : Nat} {xs : List Int} (h : RB W b n xs) : ReadsInt W .u8 (some ⟨b, 0, none⟩) n xs :=
  ⟨h.len, h.sml, fun _ => ⟨_, rfl, fun j hj => by rw [add_plain]; exact h.cell j hj⟩⟩
theorem RB.string {W : World} {b n c : Nat} {xs : List Int} (h : RB W b n xs) : (convert 38 9 (.slice (some ⟨b, 0, none⟩) n c)).run Try.prog W = .ok (.string (strOfNums xs)) W :=
  string_of_reads (P := Try.prog) (src := 38) (dst := 9) (e := 5) Try.underlying38 Try.underlying5 Try.underlying9 h.reads
end Go.Proofs.Ytkkgbbfojmnopaa.G
end
