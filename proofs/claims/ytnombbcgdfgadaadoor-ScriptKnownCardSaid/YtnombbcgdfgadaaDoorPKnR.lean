import Derived.LaidMore
import Derived.LaidHandle
import Derived.Stop.Joined
import Derived.Lib.IfaceEq
import Derived.Lib.ItoaLen
import Derived.Shelf.Strings.MapGrows
import Derived.Shelf.Abstract
import Derived.LaidEql
import Derived.Stop.Asserts
import Derived.RowKitTokens
import Derived.Lib.LaidTab
import Derived.Lib.AppendIntMem
import Derived.Stop.LaidErr
import Derived.WalkKit
import Derived.Deep.RegionLaw
import Derived.Deep.Cut
import Derived.WalkSpells
import Derived.Test.YtnombbcgdfgadaaDoorPKnS2
import Derived.Test.YtnombbcgdfgadaaDoorPKnP
import Derived.Test.YtnombbcgdfgadaaDoorPKnGx0
import Derived.Lib.Hide
set_option linter.unusedVariables false
set_option linter.unusedSimpArgs false
section
namespace Go.Proofs.YtnombbcgdfgadaaDoor.G
open Go.Shelf Go.Extern.Stop Go.Stop Go.Extern Go.RowKit Go.Proofs.YtnombbcgdfgadaaDoorW.PrintWords Go.Proofs.YtnombbcgdfgadaaDoorW.PrintLast Go.Proofs.YtnombbcgdfgadaaDoorW.PrintMore
set_option linter.unusedVariables false
set_option linter.unusedSimpArgs false
theorem ba_ext {a b : ByteArray} (h : a.data.toList = b.data.toList) : a = b := by
  cases a; cases b
  congr 1
  exact Array.toList_inj.mp h
theorem ext_list (s : ByteArray) (a b : Nat) : (s.extract a b).data.toList = (s.data.toList.drop a).take (b - a) := by
  rw [ByteArray.data_extract, Array.toList_extract]
theorem indexByte_cons (c : UInt8) (l : List UInt8) : Lib.indexByte (c :: l) 10 = if c = 10 then 0 else if Lib.indexByte l 10 = -1 then -1 else Lib.indexByte l 10 + 1 := by
  show (if (c == 10) = true then (0 : Int) else if (Lib.indexByte l 10 == -1) = true then -1 else Lib.indexByte l 10 + 1) = _
  generalize Lib.indexByte l 10 = z
  by_cases h : c = 10
  · rw [if_pos h, if_pos (beq_iff_eq.mpr h)]
  · rw [if_neg h, if_neg (fun e => h (beq_iff_eq.mp e))]
    by_cases hz : z = -1
    · rw [if_pos hz, if_pos (beq_iff_eq.mpr hz)]
    · rw [if_neg hz, if_neg (fun e => hz (beq_iff_eq.mp e))]
structure RS (w : World) (vr vf vs : Nat) (X : Nat → Prop) (sv rv : Value) (xs : List S44) (wr : World) : Prop where
  bel : Below w.heap.size w wr
  pr : wr.heap[vr]? = some (.cells #[.string ⟨#[]⟩, .slice none 0 0] 24 (0, 0))
  pf : wr.heap[vf]? = some (.cells #[.int .i64 0, .int .i64 0] 31 (0, 0))
  ps : wr.heap[vs]? = some (.cells #[.string ⟨#[]⟩, sv] 24 (0, 0))
  rr : Kd.R k44 44 wr w.heap.size (fun k => vs < k ∧ ¬ X k) rv xs
  h1 : w.heap.size ≤ vr
  h2 : vr < vf
  h3 : vf < vs
section
variable {w wr w1 : World} {vr vf vs : Nat} {X : Nat → Prop} {sv rv : Value} {xs : List S44}
theorem RS.below (h : RS w vr vf vs X sv rv xs wr) (hb : Below wr.heap.size wr w1) : RS w vr vf vs X sv rv xs w1 :=
  ⟨below_step h.bel hb, blk_below h.pr hb, blk_below h.pf hb, blk_below h.ps hb, Kd.R_below h.rr hb, h.h1, h.h2, h.h3⟩
theorem RS.mark {gb : Nat} (h : RS w vr vf vs (fun _ => False) sv rv xs wr) (hgb : wr.heap.size ≤ gb) : RS w vr vf vs (fun k => k = gb) sv rv xs wr :=
  ⟨h.bel, h.pr, h.pf, h.ps, Kd.R_mono (Kd.R_bound h.rr) (fun k hk => ⟨hk.1.1, fun e => by have := hk.2.2.1; omega⟩), h.h1, h.h2, h.h3⟩
theorem RS.unmark (h : RS w vr vf vs X sv rv xs wr) : RS w vr vf vs (fun _ => False) sv rv xs wr :=
  ⟨h.bel, h.pr, h.pf, h.ps, Kd.R_mono h.rr (fun k hk => ⟨hk.1, fun e => e⟩), h.h1, h.h2, h.h3⟩
theorem RS.push {v1 : Value} {ys : List S44} (h : RS w vr vf vs X sv rv xs wr) (hn : Kd.R k44 44 w1 w.heap.size (fun k => vs < k ∧ ¬ X k) v1 ys) (hb : Below w.heap.size wr w1) (hg : wr.grownBy w1 rv.ownBlock) : RS w vr vf vs X sv v1 ys w1 :=
  ⟨h.bel.trans hb, blk_grown h.pr hg (Kd.R_away h.rr (fun k hk => by have := h.h2; have := h.h3; omega)), blk_grown h.pf hg (Kd.R_away h.rr (fun k hk => by have := h.h3; omega)), blk_grown h.ps hg (Kd.R_away h.rr (fun k hk => by omega)), hn, h.h1, h.h2, h.h3⟩
theorem RS.put (h : RS w vr vf vs X sv rv xs wr) (u : Value) : RS w vr vf vs X u rv xs (wr.setCell ⟨vs, 1, none⟩ u) :=
  ⟨below_set h.bel (by have := h.h1; have := h.h2; have := h.h3; omega), blk_far h.pr (by have := h.h2; have := h.h3; show vr ≠ vs; omega) _, blk_far h.pf (by have := h.h3; show vf ≠ vs; omega) _, blk_put h.ps 1 _ rfl,
    Kd.R_far h.rr (p := ⟨vs, 1, none⟩) (fun k hk => by show k ≠ vs; omega) _, h.h1, h.h2, h.h3⟩
theorem RS.end_fault (h : RS w vr vf vs X sv rv xs wr) (c a : Int) {w2 : World} (e : w2 = (((wr.setCell ⟨vr, 0, none⟩ (.string ⟨#[]⟩)).setCell ⟨vr, 1, none⟩ (.slice none 0 0)).setCell ⟨vf, 0, none⟩ (.int .i64 c)).setCell ⟨vf, 1, none⟩ (.int .i64 a)) :
    w2.heap[vr]? = some (.cells #[.string ⟨#[]⟩, .slice none 0 0] 24 (0, 0)) ∧ w2.heap[vf]? = some (.cells #[.int .i64 c, .int .i64 a] 31 (0, 0)) ∧ Below w.heap.size w w2 := by
  subst e
  have h1 := h.h1
  have h2 := h.h2
  have hn : vr ≠ vf := by omega
  have hn' : vf ≠ vr := by omega
  exact ⟨blk_far (p := ⟨vf, 1, none⟩) (blk_far (p := ⟨vf, 0, none⟩) (blk_put (blk_put (cs' := #[.string ⟨#[]⟩, .slice none 0 0]) h.pr 0 _ rfl) 1 _ rfl) hn _) hn _,
    blk_put (blk_put (cs' := #[.int .i64 c, .int .i64 0]) (blk_far (p := ⟨vr, 1, none⟩) (blk_far (p := ⟨vr, 0, none⟩) h.pf hn' _) hn' _) 0 _ rfl) 1 _ rfl, below_set (below_set (below_set (below_set h.bel h1) h1) (by omega)) (by omega)⟩
theorem RS.end_ok (h : RS w vr vf vs X sv rv xs wr) (r : ByteArray) (v : Value) {w2 : World} (e : w2 = ((((wr.setCell ⟨vs, 0, none⟩ (.string r)).setCell ⟨vr, 0, none⟩ (.string r)).setCell ⟨vr, 1, none⟩ v).setCell ⟨vf, 0, none⟩ (.int .i64 0)).setCell ⟨vf, 1, none⟩ (.int .i64 0)) :
    w2.heap[vr]? = some (.cells #[.string r, v] 24 (0, 0)) ∧ w2.heap[vf]? = some (.cells #[.int .i64 0, .int .i64 0] 31 (0, 0)) ∧ Kd.R k44 44 w2 w.heap.size (fun k => w.heap.size ≤ k) rv xs ∧ Below w.heap.size w w2 := by
  subst e
  have h1 := h.h1
  have h2 := h.h2
  have h3 := h.h3
  have hn : vr ≠ vf := by omega
  have hn' : vf ≠ vr := by omega
  refine ⟨blk_far (p := ⟨vf, 1, none⟩) (blk_far (p := ⟨vf, 0, none⟩) (blk_put (blk_put (cs' := #[.string r, .slice none 0 0]) (blk_far (p := ⟨vs, 0, none⟩) h.pr (by show vr ≠ vs; omega) _) 0 _ rfl) 1 _ rfl) hn _) hn _,
    blk_put (blk_put (cs' := #[.int .i64 0, .int .i64 0]) (blk_far (p := ⟨vr, 1, none⟩) (blk_far (p := ⟨vr, 0, none⟩) (blk_far (p := ⟨vs, 0, none⟩) h.pf (by show vf ≠ vs; omega) _) hn' _) hn' _) 0 _ rfl) 1 _ rfl, ?_, below_set (below_set (below_set (below_set (below_set h.bel (by omega)) h1) h1) (by omega)) (by omega)⟩
  exact Kd.R_mono (Kd.R_far (p := ⟨vf, 1, none⟩) (Kd.R_far (p := ⟨vf, 0, none⟩) (Kd.R_far (p := ⟨vr, 1, none⟩) (Kd.R_far (p := ⟨vr, 0, none⟩) (Kd.R_far (p := ⟨vs, 0, none⟩) h.rr (fun k hk => by show k ≠ vs; omega) _) (fun k hk => by show k ≠ vr; omega) _) (fun k hk => by show k ≠ vr; omega) _) (fun k hk => by show k ≠ vf; omega) _) (fun k hk => by show k ≠ vf; omega) _) (fun k hk => by omega)
end
end Go.Proofs.YtnombbcgdfgadaaDoor.G
end
