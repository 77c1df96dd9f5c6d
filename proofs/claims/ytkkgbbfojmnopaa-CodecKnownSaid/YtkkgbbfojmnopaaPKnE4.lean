import Derived.WalkKit
import Derived.WalkLawsBesides
import Derived.Deep.RegionLaw
import Derived.Deep.Cut
import Derived.WalkSpells
import Derived.Recover
import Derived.Laws.Bits64b
import Derived.Test.YtkkgbbfojmnopaaPKnE3
import Derived.Test.YtkkgbbfojmnopaaPKnGx0
set_option linter.unusedVariables false
set_option linter.unusedSimpArgs false
section
namespace Go.Proofs.Ytkkgbbfojmnopaa.G
open Go.RowKit Go.Proofs.YtkkgbbfojmnopaaW.PrintWords Go.Proofs.YtkkgbbfojmnopaaW.PrintLast Go.Proofs.YtkkgbbfojmnopaaW.PrintMore
set_option linter.unusedVariables false
set_option linter.unusedSimpArgs false
structure Aft (p : Nat) (w : World) (r : List UInt8) (w' : World) : Prop where
  bel : Below p w w'
  keep : KeepBut w w' p none
  blk : ∃ s' : ByteArray, s'.data.toList = r ∧ w'.heap[p]? = some (.cells #[.string s'] 63 (0, 0))
theorem Aft.trans {p : Nat} {w w1 w2 : World} {r r2 : List UInt8} (h : Aft p w r w1) (k : Aft p w1 r2 w2) : Aft p w r2 w2 := ⟨h.bel.trans k.bel, h.keep.trans k.keep (.inl rfl), k.blk⟩
theorem Aft.lt {p : Nat} {w w' : World} {r : List UInt8} (h : Aft p w r w') : p < w'.heap.size := by
  obtain ⟨s, _, hb⟩ := h.blk
  exact blk_lt hb
theorem Aft.alloc {p : Nat} {w w' : World} {r : List UInt8} (h : Aft p w r w') (o : Obj) : Aft p w r (w'.alloc o) := by
  obtain ⟨s, hs, hb⟩ := h.blk
  exact ⟨h.bel.trans ((below_alloc (Below.refl _ _) o).mono (Nat.le_of_lt h.lt)), h.keep.trans (KeepBut.of_below (below_alloc (Below.refl _ _) o) p none) (.inl rfl), s, hs, blk_alloc hb o⟩
theorem Aft.far {p : Nat} {w w' : World} {r : List UInt8} (h : Aft p w r w') {a : Addr} (hp : w.heap.size ≤ a.block) (hl : p < w.heap.size) (u : Value) : Aft p w r (w'.setCell a u) := by
  obtain ⟨s, hs, hb⟩ := h.blk
  refine ⟨h.bel.setCell (by omega) u, ⟨by simpa [World.setCell] using h.keep.1, fun i hi hg hr => (Below.heap_setCell w' a u i (by omega)).trans (h.keep.2 i hi hg hr)⟩, s, hs, blk_far hb (by omega) u⟩
theorem Aft.below {p : Nat} {w w' w2 : World} {r : List UInt8} (h : Aft p w r w') (hb : Below w'.heap.size w' w2) : Aft p w r w2 := by
  obtain ⟨s, hs, hk⟩ := h.blk
  exact ⟨h.bel.trans (hb.mono (Nat.le_of_lt h.lt)), h.keep.trans (KeepBut.of_below hb p none) (.inl rfl), s, hs, blk_below hk hb⟩
def RdE {α : Type} (p : Nat) (dec : List UInt8 → Option (α × List UInt8)) (V : World → World → α → Value → Prop) (l : List UInt8) (w : World) (e : Ending) (w' : World) : Prop := match dec l with
  | some (x, r) => ∃ v, e = .returned v ∧ V w w' x v ∧ Aft p w r w'
  | none => e = .panicked wrongP ∧ Below p w w' ∧ KeepBut w w' p none
theorem RdE.elim {α : Type} {p : Nat} {dec : List UInt8 → Option (α × List UInt8)} {V : World → World → α → Value → Prop} {l : List UInt8} {w : World} {e : Ending} {w' : World} (h : RdE p dec V l w e w') :
    (∃ x r v, dec l = some (x, r) ∧ e = .returned v ∧ V w w' x v ∧ Aft p w r w') ∨ (dec l = none ∧ e = .panicked wrongP ∧ Below p w w' ∧ KeepBut w w' p none) := by
  unfold RdE at h
  cases hd : dec l with
  | none => rw [hd] at h; exact .inr ⟨rfl, h⟩
  | some y =>
    obtain ⟨x, r⟩ := y
    rw [hd] at h
    obtain ⟨v, h1, h2, h3⟩ := h
    exact .inl ⟨x, r, v, rfl, h1, h2, h3⟩
theorem RdE.yes {α : Type} {p : Nat} {dec : List UInt8 → Option (α × List UInt8)} {V : World → World → α → Value → Prop} {l r : List UInt8} {w : World} {v : Value} {w' : World} {x : α} (hd : dec l = some (x, r)) (hv : V w w' x v) (ha : Aft p w r w') : RdE p dec V l w (.returned v) w' := by
  unfold RdE; rw [hd]; exact ⟨v, rfl, hv, ha⟩
theorem RdE.no {α : Type} {p : Nat} {dec : List UInt8 → Option (α × List UInt8)} {V : World → World → α → Value → Prop} {l : List UInt8} {w : World} {w' : World} (hd : dec l = none) (hb : Below p w w') (hk : KeepBut w w' p none) : RdE p dec V l w (.panicked wrongP) w' := by
  unfold RdE; rw [hd]; exact ⟨rfl, hb, hk⟩
structure Rdr (p : Nat) (l : List UInt8) (w : World) : Prop where
  blk : ∃ s : ByteArray, s.data.toList = l ∧ w.heap[p]? = some (.cells #[.string s] 63 (0, 0))
  len : l.length ≤ 10000000
theorem Aft.rdr {p : Nat} {w w' : World} {r : List UInt8} (h : Aft p w r w') (hl : r.length ≤ 10000000) : Rdr p r w' := ⟨h.blk, hl⟩
theorem Rdr.aft {p : Nat} {w : World} {l : List UInt8} (h : Rdr p l w) : Aft p w l w := ⟨Below.refl _ _, KeepBut.refl _ _ _, h.blk⟩
theorem Rdr.lt {p : Nat} {w : World} {l : List UInt8} (h : Rdr p l w) : p < w.heap.size := h.aft.lt
theorem natural_rd (p : Nat) (l : List UInt8) (m : Nat) (w : World) (h : Rdr p l w) (hm : m ≤ 10000000) :
    Calls Try.prog 43 #[.pointer (some ⟨p, 0, none⟩), .int .i64 m] w fun e w' => RdE p (Cod.nat m).dec (fun _ _ n v => v = .int .i64 (n : Int)) l w e w' := by
  obtain ⟨⟨s, hs, hc⟩, hl⟩ := h
  refine (natural_any p p s l m w hc hs hl (Nat.le_refl _) hm).mono ?_
  intro e w' h
  unfold NatR at h
  cases hd : (Cod.nat m).dec l with
  | none =>
    rw [hd] at h
    obtain ⟨rfl, h1⟩ := h
    exact RdE.no hd h1.1 h1.2
  | some y =>
    obtain ⟨n, r⟩ := y
    rw [hd] at h
    obtain ⟨s', h1, rfl, rfl⟩ := h
    exact RdE.yes hd rfl ⟨(Below.refl p w).setCell (p := ⟨p, 0, none⟩) (Nat.le_refl _) _, (KeepBut.refl w p none).set_ 0 _, s', h1, blk_set hc 0 _⟩
end Go.Proofs.Ytkkgbbfojmnopaa.G
end
