import Derived.Shelf.Abstract
import Derived.Test.YtpdcedmnkkiekaaPKnGx0
import Derived.Test.YtpdcedmnkkiekaaPKnLoose
import Derived.Lib.Hide
set_option linter.unusedVariables false
set_option linter.unusedSimpArgs false
section
namespace Go.Proofs.Ytpdcedmnkkiekaa.G
open Go.Shelf Go.RowKit Go.Proofs.YtpdcedmnkkiekaaW.PrintWords Go.Proofs.YtpdcedmnkkiekaaW.PrintLast Go.Proofs.YtpdcedmnkkiekaaW.PrintMore
set_option linter.unusedVariables false
set_option linter.unusedSimpArgs false
def P0 : S41 := ⟨0, 1, [], [], [⟨0, 0, 0⟩, ⟨19, 0, 0⟩]⟩
structure At0 (W : World) (g : Nat) (a b c u0 u1 u2 u3 : Int) : Prop where
  sz : W.heap.size = g + 5
  ki : W.heap[g]? = some (.cells #[.int .i64 a, .int .i64 b, .int .i64 c] 33 (0, 0))
  kl : W.heap[g + 1]? = some (.cells #[.int .u8 u0, .int .u8 u1, .int .u8 u2, .int .u8 u3] 34 (0, 0))
  kr : W.heap[g + 2]? = some (.cells #[.slice none 0 0] 28 (0, 0))
  kp : W.heap[g + 3]? = some (.cells #[.slice none 0 0] 28 (0, 0))
  ke : W.heap[g + 4]? = some (.cells #[.int .i64 0, .int .i64 0, .int .i64 0, .int .i64 19, .int .i64 0, .int .i64 0] 33 (0, 0))
theorem blk_new' {w : World} {o : Obj} {i : Nat} (h : i = w.heap.size) : (w.alloc o).heap[i]? = some o := h ▸ blk_new w o
theorem bel_set {w wr w1 : World} {g B b j : Nat} {u : Value} (h : Below g w wr) (hb : Below B wr w1) (h1 : g ≤ B) (h2 : g ≤ b) : Below g w (w1.setCell ⟨b, j, none⟩ u) :=
  h.trans ((hb.mono h1).trans (Below.setCell (Below.refl g w1) h2 u))
def consts (n : Nat) : List S46 := (List.range n).map fun (i : Nat) => ⟨3 + 2 * ((i : Int) % 2), 0, ⟨#[]⟩⟩
def ups (n : Nat) : List S48 := (List.range n).map fun (i : Nat) => ⟨false, (i : Int)⟩
structure At1 (W : World) (g q m : Nat) (a b c regs u0 u1 u2 u3 : Int) (vp : Value) : Prop where
  sz : W.heap.size = q + 2
  hq : g + 5 ≤ q
  kl : W.heap[g + 1]? = some (.cells #[.int .u8 u0, .int .u8 u1, .int .u8 u2, .int .u8 u3] 34 (0, 0))
  kr : W.heap[g + 2]? = some (.cells #[.slice none 0 0] 28 (0, 0))
  kp : W.heap[g + 3]? = some (.cells #[vp] 28 (0, 0))
  kc : W.heap[q]? = some (.cells #[.int .i64 a, .int .i64 b, .int .i64 c, .int .i64 a, .int .i64 b, .int .i64 c] 33 (0, 0))
  kq : W.heap[q + 1]? = some (.cells #[.int .i64 0, .int .i64 regs, .slice none 0 0, .slice none 0 0, .slice (some ⟨q, 0, none⟩) 2 2] 41 (0, 0))
  np : Kd.N k41 41 W (g + 5) (fun i => (i = g + 4 ∨ g + 5 ≤ i) ∧ i < q) vp (List.replicate m P0)
def PX (a b c regs : Int) (i j : Nat) : S41 := ⟨0, regs, ups i, consts j, [⟨a, b, c⟩, ⟨a, b, c⟩]⟩
structure At3 (W : World) (g q m : Nat) (a b c regs : Int) (i j : Nat) (A2 A3 : Option Addr) (cp2 cp3 : Nat) (vp : Value) : Prop where
  sz : g + 5 ≤ W.heap.size
  hq : g + 5 ≤ q
  kr : W.heap[g + 2]? = some (.cells #[.slice none 0 0] 28 (0, 0))
  kp : W.heap[g + 3]? = some (.cells #[vp] 28 (0, 0))
  kq : W.heap[q + 1]? = some (.cells #[.int .i64 0, .int .i64 regs, .slice A3 (ups i).length cp3, .slice A2 (consts j).length cp2, .slice (some ⟨q, 0, none⟩) 2 2] 41 (0, 0))
  np : Kd.N k41 41 W (g + 5) (fun i => i = g + 4 ∨ g + 5 ≤ i) vp (List.replicate m P0)
  lt : ∀ k, vp.ownBlock = some k → k < q
  fx : Kd.FK k41 W (fun i => q ≤ i) (PX a b c regs i j) [.int .i64 0, .int .i64 regs, .slice A3 (ups i).length cp3, .slice A2 (consts j).length cp2, .slice (some ⟨q, 0, none⟩) 2 2]
end Go.Proofs.Ytpdcedmnkkiekaa.G
end
