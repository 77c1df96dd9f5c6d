import Derived.LaidMore
import Derived.LaidHandle
import Derived.Stop.Joined
import Derived.Lib.IfaceEq
import Derived.Lib.IndexMore
import Derived.Shelf.Abstract
import Derived.LaidEql
import Derived.Stop.Asserts
import Derived.RowKitTokens
import Derived.Lib.LaidTab
import Derived.Lib.AppendIntMem
import Derived.Stop.LaidErr
import Derived.WalkKit
import Derived.Deep.RegionLaw
import Derived.Deep.Cut
import Derived.WalkSpells
import Derived.Maps.OwnOps
import Derived.Maps.OwnSet
import Derived.Maps.Views
import Derived.Maps.RangeWalk
import Derived.Maps.Own
import Derived.Test.YtlbaejihlcfpeaaGreatDoorPStA5
import Derived.Test.YtlbaejihlcfpeaaGreatDoorPStGx0
import Derived.Test.YtlbaejihlcfpeaaGreatDoorPStGxF59
import Derived.Lib.Hide
set_option linter.unusedVariables false
set_option linter.unusedSimpArgs false
section
namespace Go.Proofs.YtlbaejihlcfpeaaGreatDoor.G
open Go.Proofs.YtlbaejihlcfpeaaGreatDoor.G Go.Proofs.YtlbaejihlcfpeaaGreatDoor.Z
open Go.Shelf Go.Extern.Stop Go.Stop Go.Extern Go.RowKit Go.Proofs.YtlbaejihlcfpeaaGreatDoorW.PrintWords Go.Proofs.YtlbaejihlcfpeaaGreatDoorW.PrintLast Go.Proofs.YtlbaejihlcfpeaaGreatDoorW.PrintMore
set_option linter.unusedVariables false
set_option linter.unusedSimpArgs false
structure TR (w : World) (g : Nat) (X : Nat → Prop) (rv : Value) (xs : List S41) (wr : World) : Prop where
  bel : Below w.heap.size w wr
  pg : wr.heap[g]? = some (.cells #[.int .i64 0, .int .i64 0] 29 (0, 0))
  rr : Kd.R k41 41 wr w.heap.size (fun k => g < k ∧ ¬ X k) rv xs
  h1 : w.heap.size ≤ g
section
variable {w wr w1 : World} {g : Nat} {X : Nat → Prop} {rv : Value} {xs : List S41}
theorem TR.below (h : TR w g X rv xs wr) (hb : Below wr.heap.size wr w1) : TR w g X rv xs w1 := ⟨below_step h.bel hb, blk_below h.pg hb, Kd.R_below h.rr hb, h.h1⟩
theorem TR.mark {gb : Nat} (h : TR w g (fun _ => False) rv xs wr) (hgb : wr.heap.size ≤ gb) : TR w g (fun k => k = gb) rv xs wr :=
  ⟨h.bel, h.pg, Kd.R_mono (Kd.R_bound h.rr) (fun k hk => ⟨hk.1.1, fun e => by have := hk.2.2.1; omega⟩), h.h1⟩
theorem TR.unmark (h : TR w g X rv xs wr) : TR w g (fun _ => False) rv xs wr := ⟨h.bel, h.pg, Kd.R_mono h.rr (fun k hk => ⟨hk.1, fun e => e⟩), h.h1⟩
theorem TR.setx {gb : Nat} (h : TR w g X rv xs wr) (hx : X gb) (h0 : g < gb) (j : Nat) (u : Value) : TR w g X rv xs (wr.setCell ⟨gb, j, none⟩ u) :=
  ⟨below_set h.bel (by have := h.h1; omega), blk_far h.pg (by show g ≠ gb; omega) _, Kd.R_far h.rr (p := ⟨gb, j, none⟩) (fun k hk e => hk.2 (by have : k = gb := e; rw [this]; exact hx)) _, h.h1⟩
theorem TR.push {v1 : Value} {ys : List S41} (h : TR w g X rv xs wr) (hn : Kd.R k41 41 w1 w.heap.size (fun k => g < k ∧ ¬ X k) v1 ys) (hb : Below w.heap.size wr w1) (hg : wr.grownBy w1 rv.ownBlock) : TR w g X v1 ys w1 :=
  ⟨h.bel.trans hb, blk_grown h.pg hg (Kd.R_away h.rr (fun k hk => by omega)), hn, h.h1⟩
theorem TR.fin (h : TR w g X rv xs wr) (c a : Int) : ((wr.setCell ⟨g, 0, none⟩ (.int .i64 c)).setCell ⟨g, 1, none⟩ (.int .i64 a)).heap[g]? = some (.cells #[.int .i64 c, .int .i64 a] 29 (0, 0)) ∧ Below w.heap.size w ((wr.setCell ⟨g, 0, none⟩ (.int .i64 c)).setCell ⟨g, 1, none⟩ (.int .i64 a)) ∧ Kd.R k41 41 ((wr.setCell ⟨g, 0, none⟩ (.int .i64 c)).setCell ⟨g, 1, none⟩ (.int .i64 a)) w.heap.size (fun k => w.heap.size ≤ k) rv xs :=
  ⟨blk_put (blk_put (cs' := #[.int .i64 c, .int .i64 0]) h.pg 0 _ rfl) 1 _ rfl, below_set (below_set h.bel h.h1) h.h1, Kd.R_mono (Kd.R_far (p := ⟨g, 1, none⟩) (Kd.R_far (p := ⟨g, 0, none⟩) h.rr (fun k hk => by show k ≠ g; omega) _) (fun k hk => by show k ≠ g; omega) _) (fun k hk => by have := h.h1; omega)⟩
theorem TR.cells (h : TR w g X rv xs wr) : wr.cell? ⟨g, 0, none⟩ = some (.int .i64 0) ∧ wr.cell? ⟨g, 1, none⟩ = some (.int .i64 0) ∧ wr.frozen? ⟨g, 0, none⟩ = false ∧ wr.frozen? ⟨g, 1, none⟩ = false :=
  ⟨(blk_cell h.pg 0).trans rfl, (blk_cell h.pg 1).trans rfl, blk_frozen h.pg 0, blk_frozen h.pg 1⟩
end
end Go.Proofs.YtlbaejihlcfpeaaGreatDoor.G
end
