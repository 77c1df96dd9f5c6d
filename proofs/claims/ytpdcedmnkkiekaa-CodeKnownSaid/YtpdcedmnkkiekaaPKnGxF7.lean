import Derived.Deep.RegionLaw
import Derived.Outline
import Derived.Deep.Cut
import Derived.WalkSpells
import Derived.Shelf.Abstract
import Derived.Test.YtpdcedmnkkiekaaPKnCA
import Derived.Test.YtpdcedmnkkiekaaPKnGxF17
import Derived.Test.YtpdcedmnkkiekaaPKnGxF6
import Derived.Lib.Hide
set_option linter.unusedVariables false
set_option linter.unusedSimpArgs false
section
namespace Go.Proofs.Ytpdcedmnkkiekaa.G
open Go.Shelf Go.RowKit Go.Proofs.YtpdcedmnkkiekaaW.PrintWords Go.Proofs.YtpdcedmnkkiekaaW.PrintLast Go.Proofs.YtpdcedmnkkiekaaW.PrintMore
set_option linter.unusedVariables false
set_option linter.unusedSimpArgs false
def P1 : S41 := ⟨0, 1, [], [], [⟨19, 0, 0⟩]⟩
def okM (gb g0 : Nat) (x : Nat) : Prop := gb + 1 ≤ x ∨ x < g0
structure AtM3 (w W : World) (gb g cp n c : Nat) (A : Option Addr) (l : List S41) : Prop where
  gt : w.heap.size < gb
  bel : Below w.heap.size w W
  kp : W.heap[w.heap.size]? = some (.cells #[.slice A n c] 28 (0, 0))
  kq : W.heap[gb]? = some (.cells #[.slice (some ⟨g, 0, none⟩) l.length cp] 28 (0, 0))
  nq : Kd.N k41 41 W (gb + 1) (okM gb w.heap.size) (.slice (some ⟨g, 0, none⟩) l.length cp) l
def S16 (w : World) (gb g nq cp n c : Nat) (A : Option Addr) (l : List S41) (W : World) : Prop :=
  w.heap.size < gb ∧ Below w.heap.size w W ∧ W.heap[w.heap.size]? = some (.cells #[.slice A n c] 28 (0, 0)) ∧ W.heap[gb]? = some (.cells #[.slice (some ⟨g, 0, none⟩) nq cp] 28 (0, 0)) ∧
  Kd.N k41 41 W (gb + 1) (okM gb w.heap.size) (.slice (some ⟨g, 0, none⟩) nq cp) l ∧ gb + 1 ≤ g ∧ g < W.heap.size
theorem S16.below {w W W1 : World} {gb g cp n c nq : Nat} {A : Option Addr} {l : List S41} (h : S16 w gb g nq cp n c A l W) (hb : Below W.heap.size W W1) : S16 w gb g nq cp n c A l W1 :=
  ⟨h.1, h.2.1.trans (hb.mono h.2.1.size), blk_below h.2.2.1 hb, blk_below h.2.2.2.1 hb, Kd.N_below h.2.2.2.2.1 hb, h.2.2.2.2.2.1, by have := h.2.2.2.2.2.2; have := hb.size; omega⟩
theorem S16.cell {w W : World} {gb g cp n c nq : Nat} {A : Option Addr} {l : List S41} (h : S16 w gb g nq cp n c A l W) : W.cell? ⟨gb, 0, none⟩ = some (.slice (some ⟨g, 0, none⟩) nq cp) := (blk_cell h.2.2.2.1 0).trans rfl
def S17 (w : World) (gb nq n c : Nat) (A : Option Addr) (l : List S41) (A1 : Option Addr) (c1 : Nat) (W : World) : Prop :=
  Below w.heap.size w W ∧ W.heap[w.heap.size]? = some (.cells #[.slice A n c] 28 (0, 0)) ∧ W.heap[gb]? = some (.cells #[.slice A1 nq c1] 28 (0, 0)) ∧ Kd.C k41 W A1 nq l ∧ nq ≤ c1
theorem S17.below {w W W1 : World} {gb n c nq c1 : Nat} {A A1 : Option Addr} {l : List S41} (h : S17 w gb nq n c A l A1 c1 W) (hb : Below W.heap.size W W1) : S17 w gb nq n c A l A1 c1 W1 :=
  ⟨h.1.trans (hb.mono h.1.size), blk_below h.2.1 hb, blk_below h.2.2.1 hb, Kd.C_below h.2.2.2.1 hb, h.2.2.2.2⟩
theorem S16.next {w W w10 : World} {gb g cp n c nq c1 : Nat} {A A1 : Option Addr} {l : List S41} {p : S41} (h : S16 w gb g nq cp n c A l W) (hb : Below (gb + 1) W w10)
    (hN : Kd.N k41 41 w10 (gb + 1) (okM gb w.heap.size) (.slice A1 (l ++ [p]).length c1) (l ++ [p])) (hl : l.length = nq) :
    S17 w gb (nq + 1) n c A (l ++ [p]) A1 c1 (w10.setCell ⟨gb, 0, none⟩ (.slice A1 (nq + 1) c1)) := by
  obtain ⟨h1, h2, h3, h4, h5, _⟩ := h
  have e2 : (l ++ [p]).length = nq + 1 := by simp [hl]
  rw [e2] at hN
  have hr := Kd.N_reads' (Kd.N_far hN (p := ⟨gb, 0, none⟩) (fun x hx => by rcases hx with hx | hx <;> (show x ≠ gb; omega)) (.slice A1 (nq + 1) c1))
  rw [e2] at hr
  exact ⟨(h2.trans (hb.mono (by omega))).setCell (by show w.heap.size ≤ gb; omega) _, blk_far ((hb.block _ (by omega)).trans h3) (by show w.heap.size ≠ gb; omega) _, blk_put ((hb.block _ (Nat.lt_succ_self _)).trans h4) 0 _ rfl, hr.2.2, hr.2.1⟩
theorem minfo33 : (Try.prog.info? 33).map (fun i => (i.zero, i.size, i.bytes)) = some (some (.agg #[(.int .i64 0), (.int .i64 0), (.int .i64 0)]), 3, 24) := by kernel_rfl
end Go.Proofs.Ytpdcedmnkkiekaa.G
end
