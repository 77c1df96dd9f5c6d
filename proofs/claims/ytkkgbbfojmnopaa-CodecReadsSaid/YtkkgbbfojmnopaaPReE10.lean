import Derived.WalkKit
import Derived.WalkLawsBesides
import Derived.Deep.RegionLaw
import Derived.Deep.Cut
import Derived.WalkSpells
import Derived.Recover
import Derived.Laws.Bits64b
import Derived.Test.YtkkgbbfojmnopaaPReE3
import Derived.Test.YtkkgbbfojmnopaaPReGx0
set_option linter.unusedVariables false
set_option linter.unusedSimpArgs false
section
namespace Go.Proofs.Ytkkgbbfojmnopaa.G
open Go.RowKit Go.Proofs.YtkkgbbfojmnopaaW.PrintWords Go.Proofs.YtkkgbbfojmnopaaW.PrintLast Go.Proofs.YtkkgbbfojmnopaaW.PrintMore
structure Aft (p : Nat) (w : World) (r : List UInt8) (w' : World) : Prop where
 bel : Below p w w'
 keep : KeepBut w w' p none
 blk : ∃ s' : ByteArray, s'.data.toList = r ∧ w'.heap[p]? = some (.cells #[.string s'] 63 (0, 0))
theorem Aft.trans {p : Nat} {w w1 w2 : World} {r r2 : List UInt8} (h : Aft p w r w1) (k : Aft p w1 r2 w2) : Aft p w r2 w2 := ⟨h.bel.trans k.bel, h.keep.trans k.keep (.inl rfl), k.blk⟩
theorem Aft.lt {p : Nat} {w w' : World} {r : List UInt8} (h : Aft p w r w') : p < w'.heap.size := by
 obtain ⟨s, _, hb⟩ := h.blk
 exact q16q hb
theorem Aft.alloc {p : Nat} {w w' : World} {r : List UInt8} (h : Aft p w r w') (o : Obj) : Aft p w r (w'.alloc o) := by
 obtain ⟨s, hs, hb⟩ := h.blk
 exact ⟨h.bel.trans ((q4q (Below.refl _ _) o).mono (Nat.le_of_lt h.lt)), h.keep.trans (KeepBut.of_below (q4q (Below.refl _ _) o) p none) (.inl rfl), s, hs, q7q hb o⟩
theorem Aft.far {p : Nat} {w w' : World} {r : List UInt8} (h : Aft p w r w') {a : Addr} (hp : w.heap.size ≤ a.block) (hl : p < w.heap.size) (u : Value) : Aft p w r (w'.setCell a u) := by
 obtain ⟨s, hs, hb⟩ := h.blk
 refine ⟨h.bel.setCell (by omega) u, ⟨by simpa [World.setCell] using h.keep.1, fun i hi hg hr => (Below.heap_setCell w' a u i (by omega)).trans (h.keep.2 i hi hg hr)⟩, s, hs, q18q hb (by omega) u⟩
theorem Aft.below {p : Nat} {w w' w2 : World} {r : List UInt8} (h : Aft p w r w') (hb : Below w'.heap.size w' w2) : Aft p w r w2 := by
 obtain ⟨s, hs, hk⟩ := h.blk
 exact ⟨h.bel.trans (hb.mono (Nat.le_of_lt h.lt)), h.keep.trans (KeepBut.of_below hb p none) (.inl rfl), s, hs, q13q hk hb⟩
def RdE {α : Type} (p : Nat) (dec : List UInt8 → Option (α × List UInt8)) (V : World → World → α → Value → Prop) (l : List UInt8) (w : World) (e : Ending) (w' : World) : Prop := match dec l with
 | some (x, r) => ∃ v, e = .returned v ∧ V w w' x v ∧ Aft p w r w'
 | none => e = .panicked wrongP ∧ Below p w w' ∧ KeepBut w w' p none
theorem RdE.elim {α : Type} {p : Nat} {dec : List UInt8 → Option (α × List UInt8)} {V : World → World → α → Value → Prop} {l : List UInt8} {w : World} {e : Ending} {w' : World} (h : RdE p dec V l w e w') :
  (∃ x r v, dec l = some (x, r) ∧ e = .returned v ∧ V w w' x v ∧ Aft p w r w') ∨ (dec l = none ∧ e = .panicked wrongP ∧ Below p w w' ∧ KeepBut w w' p none) := by
 unfold RdE at h
 cases hd : dec l with
 | none => rw [hd] at h; exact .inr ⟨rfl, h⟩
 | some y =>
  obtain ⟨x, r⟩ := y
  rw [hd] at h
  obtain ⟨v, h1, h2, h3⟩ := h
  exact .inl ⟨x, r, v, rfl, h1, h2, h3⟩
theorem RdE.yes {α : Type} {p : Nat} {dec : List UInt8 → Option (α × List UInt8)} {V : World → World → α → Value → Prop} {l r : List UInt8} {w : World} {v : Value} {w' : World} {x : α} (hd : dec l = some (x, r)) (hv : V w w' x v) (ha : Aft p w r w') : RdE p dec V l w (.returned v) w' := by
 unfold RdE; rw [hd]; exact ⟨v, rfl, hv, ha⟩
theorem RdE.no {α : Type} {p : Nat} {dec : List UInt8 → Option (α × List UInt8)} {V : World → World → α → Value → Prop} {l : List UInt8} {w : World} {w' : World} (hd : dec l = none) (hb : Below p w w') (hk : KeepBut w w' p none) : RdE p dec V l w (.panicked wrongP) w' := by
 unfold RdE; rw [hd]; exact ⟨rfl, hb, hk⟩
structure Rdr (p : Nat) (l : List UInt8) (w : World) : Prop where
 blk : ∃ s : ByteArray, s.data.toList = l ∧ w.heap[p]? = some (.cells #[.string s] 63 (0, 0))
 len : l.length ≤ 10000000
theorem Aft.rdr {p : Nat} {w w' : World} {r : List UInt8} (h : Aft p w r w') (hl : r.length ≤ 10000000) : Rdr p r w' := ⟨h.blk, hl⟩
theorem Rdr.aft {p : Nat} {w : World} {l : List UInt8} (h : Rdr p l w) : Aft p w l w := ⟨Below.refl _ _, KeepBut.refl _ _ _, h.blk⟩
theorem Rdr.lt {p : Nat} {w : World} {l : List UInt8} (h : Rdr p l w) : p < w.heap.size := h.aft.lt
theorem natural_rd (p : Nat) (l : List UInt8) (m : Nat) (w : World) (h : Rdr p l w) (hm : m ≤ 10000000) :
  Calls Try.prog 43 #[.pointer (some ⟨p, 0, none⟩), .int .i64 m] w fun e w' => RdE p (Cod.nat m).dec (fun _ _ n v => v = .int .i64 (n : Int)) l w e w' := by
 obtain ⟨⟨s, hs, hc⟩, hl⟩ := h
 refine (natural_any p p s l m w hc hs hl (Nat.le_refl _) hm).mono ?_
 intro e w' h
 unfold NatR at h
 cases hd : (Cod.nat m).dec l with
 | none =>
  rw [hd] at h
  obtain ⟨rfl, h1⟩ := h
  exact RdE.no hd h1.1 h1.2
 | some y =>
  obtain ⟨n, r⟩ := y
  rw [hd] at h
  obtain ⟨s', h1, rfl, rfl⟩ := h
  exact RdE.yes hd rfl ⟨(Below.refl p w).setCell (p := ⟨p, 0, none⟩) (Nat.le_refl _) _, (KeepBut.refl w p none).set_ 0 _, s', h1, blk_set hc 0 _⟩
namespace Cod
theorem len {α : Type} (c : Cod α) {l r : List UInt8} {x : α} (h : c.dec l = some (x, r)) : r.length ≤ l.length := by
 have := (c.un l x r h).2
 rw [this, List.length_append]
 omega
theorem iso_none {α β : Type} {c : Cod α} {f : α → β} {g : β → α} {hgf : ∀ a, c.ok a → g (f a) = a} {l : List UInt8} (h : c.dec l = none) : (c.iso f g hgf).dec l = none := by
 show (match c.dec l with | some (x, r) => some (f x, r) | none => none) = none
 rw [h]
theorem iso_some {α β : Type} {c : Cod α} {f : α → β} {g : β → α} {hgf : ∀ a, c.ok a → g (f a) = a} {l r : List UInt8} {x : α} (h : c.dec l = some (x, r)) : (c.iso f g hgf).dec l = some (f x, r) := by
 show (match c.dec l with | some (x, r) => some (f x, r) | none => none) = _
 rw [h]
theorem seq_none1 {α β : Type} {c : Cod α} {d : Cod β} {l : List UInt8} (h : c.dec l = none) : (c.seq d).dec l = none := by
 show (match c.dec l with | some (x, r) => (match d.dec r with | some (y, s) => some ((x, y), s) | none => none) | none => none) = none
 rw [h]
theorem seq_none2 {α β : Type} {c : Cod α} {d : Cod β} {l r : List UInt8} {x : α} (h : c.dec l = some (x, r)) (h2 : d.dec r = none) : (c.seq d).dec l = none := by
 show (match c.dec l with | some (x, r) => (match d.dec r with | some (y, s) => some ((x, y), s) | none => none) | none => none) = none
 rw [h]
 simp only [h2]
theorem seq_some {α β : Type} {c : Cod α} {d : Cod β} {l r s : List UInt8} {x : α} {y : β} (h : c.dec l = some (x, r)) (h2 : d.dec r = some (y, s)) : (c.seq d).dec l = some ((x, y), s) := by
 show (match c.dec l with | some (x, r) => (match d.dec r with | some (y, s) => some ((x, y), s) | none => none) | none => none) = _
 rw [h]
 simp only [h2]
theorem nat_le {m : Nat} {l r : List UInt8} {n : Nat} (h : (nat m).dec l = some (n, r)) : n ≤ m := of_decide_eq_true ((nat m).un l n r h).1.2
end Cod
def codU : Cod S50 := (Cod.seq (Cod.nat 1) (Cod.nat 250)).iso (fun x => ⟨decide (x.1 = 1), x.2⟩) (fun u => (if u.f0 = true then 1 else 0, u.f1.toNat)) (fun a h => by
 obtain ⟨a, b⟩ := a
 have h1 : a ≤ 1 := of_decide_eq_true h.1.2
 show (if decide (a = 1) = true then 1 else 0, ((b : Int)).toNat) = (a, b)
 rw [Int.toNat_natCast]
 by_cases e : a = 1
 ·rw [e]; rfl
 ·rw [if_neg (by simpa using e), show a = 0 by omega])
def codI : Cod S52 := (Cod.seq (Cod.nat 36) (Cod.seq (Cod.nat 250) (Cod.nat 16384))).iso (fun x => ⟨x.1, x.2.1, x.2.2⟩) (fun i => (i.f0.toNat, i.f1.toNat, i.f2.toNat)) (fun a _ => rfl)
def El {α : Type} (d : Kd α) (w w' : World) (x : α) (v : Value) : Prop := ∃ cs : List Value, v = .agg cs.toArray ∧ Kd.FK d w' (fun k => w.heap.size ≤ k) x cs
set_option maxHeartbeats 1000000 in
theorem up_any (p g : Nat) (l : List UInt8) (w : World) (h : Rdr p l w) (hg : w.heap[g]? = some (.cells #[.pointer (some ⟨p, 0, none⟩)] 61 (0, 0))) (hne : g ≠ p) :
  Calls Try.prog 45 #[.pointer (some ⟨g, 0, none⟩)] w fun e w' => RdE p codU.dec (El k50) l w e w' := by
 have HR := Aq.mk h
 have hlt : p < w.heap.size := h.lt
 have HG := Aq.mk hg
 have hgl : g < w.heap.size := q16q hg
 clear h hg
 go_enter Try.func45, Try.ntmps45
 go_upto_region 1 with (fail)
 obtain ⟨w1, hw1⟩ : ∃ x, x = w.alloc (.cells #[.bool false, .int .i64 0] 50) := ⟨_, rfl⟩
 rw [← hw1]
 have HA1 := Aq.mk (show Aft p w l w1 from hw1 ▸ HR.out.aft.alloc _)
 have HV1 := Aq.mk (show w1.heap[w.heap.size]? = some (.cells #[.bool false, .int .i64 0] 50 (0, 0)) from hw1 ▸ blk_new _ _)
 clear hw1
 have HG1 := Aq.mk (show w1.heap[g]? = _ from (HA1.out.keep.2 g hgl hne (by simp)).trans HG.out)
 have g1 : w1.cell? ⟨g, 0, none⟩ = some (.pointer (some ⟨p, 0, none⟩)) := (q3q HG1.out 0).trans rfl
 go_wp2_with fail
 refine (natural_rd p l 1 w1 (HA1.out.rdr HR.out.len) (by decide)).mono ?_
 intro e w2 h2
 rcases h2.elim with ⟨n, r, v, hd, rfl, rfl, ha⟩ | ⟨hd, rfl, hb, hk⟩
 ·have HD := Aq.mk hd
  have HA2 := Aq.mk (HA1.out.trans ha)
  have hlg : g < w1.heap.size := q16q HG1.out
  have HG2 := Aq.mk (show w2.heap[g]? = _ from (ha.keep.2 g hlg hne (by simp)).trans HG1.out)
  have hlv : w.heap.size < w1.heap.size := q16q HV1.out
  have HV2 := Aq.mk (show w2.heap[w.heap.size]? = _ from (ha.keep.2 _ hlv (by omega) (by simp)).trans HV1.out)
  clear hd ha g1 h2
  have g2 : w2.cell? ⟨g, 0, none⟩ = some (.pointer (some ⟨p, 0, none⟩)) := (q3q HG2.out 0).trans rfl
  go_wp2_with fail
  refine (natural_rd p r 250 w2 (HA2.out.rdr (Nat.le_trans (Cod.len _ HD.out) HR.out.len)) (by decide)).mono ?_
  intro e w3 h3
  rcases h3.elim with ⟨n2, r2, v, hd2, rfl, rfl, ha⟩ | ⟨hd2, rfl, hb, hk⟩
  ·have HD2 := Aq.mk hd2
   have HA3 := Aq.mk (HA2.out.trans ha)
   have HV3 := Aq.mk (show w3.heap[w.heap.size]? = _ from (ha.keep.2 _ (q16q HV2.out) (by omega) (by simp)).trans HV2.out)
   clear hd2 ha g2 h3
   have cv0 : w3.cell? ⟨w.heap.size, 0, none⟩ = some (.bool false) := (q3q HV3.out 0).trans rfl
   have cv1 : w3.cell? ⟨w.heap.size, 1, none⟩ = some (.int .i64 0) := (q3q HV3.out 1).trans rfl
   have fv0 : w3.frozen? ⟨w.heap.size, 0, none⟩ = false := q1q HV3.out 0
   have fv1 : w3.frozen? ⟨w.heap.size, 1, none⟩ = false := q1q HV3.out 1
   go_wp2_with fail
   refine bodyPost_ret (results_cell_row rfl _ _ w.heap.size 50 #[.bool ((n : Int) == 1), .int .i64 (n2 : Int)] (0, 0) _ rfl (q14q (q14q HV3.out 0 _ rfl) 1 _ rfl) Try.underlying50 rfl (by kernel_rfl)) rfl ?_
   refine RdE.yes (Cod.iso_some (Cod.seq_some HD.out HD2.out)) ⟨_, rfl, ?_⟩ (Aft.far (Aft.far HA3.out (Nat.le_refl _) hlt _) (Nat.le_refl _) hlt _)
   have e : ((n : Int) == 1) = decide (n = 1) := by rw [Bool.eq_iff_iff]; simp; omega
   rw [e]
   exact k50_mkF _ _ (⟨decide (n = 1), n2⟩ : S50)
  ·exact ⟨rfl, RdE.no (Cod.iso_none (Cod.seq_none2 HD.out hd2)) (HA2.out.bel.trans hb) (HA2.out.keep.trans hk (.inl rfl))⟩
 ·exact ⟨rfl, RdE.no (Cod.iso_none (Cod.seq_none1 hd)) (HA1.out.bel.trans hb) (HA1.out.keep.trans hk (.inl rfl))⟩
set_option maxHeartbeats 1000000 in
theorem instr_any (p g : Nat) (l : List UInt8) (w : World) (h : Rdr p l w) (hg : w.heap[g]? = some (.cells #[.pointer (some ⟨p, 0, none⟩)] 61 (0, 0))) (hne : g ≠ p) :
  Calls Try.prog 49 #[.pointer (some ⟨g, 0, none⟩)] w fun e w' => RdE p codI.dec (El k52) l w e w' := by
 have HR := Aq.mk h
 have hlt : p < w.heap.size := h.lt
 have HG := Aq.mk hg
 have hgl : g < w.heap.size := q16q hg
 clear h hg
 go_enter Try.func49, Try.ntmps49
 go_upto_region 1 with (fail)
 obtain ⟨w1, hw1⟩ : ∃ x, x = w.alloc (.cells #[.int .i64 0, .int .i64 0, .int .i64 0] 52) := ⟨_, rfl⟩
 rw [← hw1]
 have HA1 := Aq.mk (show Aft p w l w1 from hw1 ▸ HR.out.aft.alloc _)
 have HV1 := Aq.mk (show w1.heap[w.heap.size]? = some (.cells #[.int .i64 0, .int .i64 0, .int .i64 0] 52 (0, 0)) from hw1 ▸ blk_new _ _)
 clear hw1
 have HG1 := Aq.mk (show w1.heap[g]? = _ from (HA1.out.keep.2 g hgl hne (by simp)).trans HG.out)
 have g1 : w1.cell? ⟨g, 0, none⟩ = some (.pointer (some ⟨p, 0, none⟩)) := (q3q HG1.out 0).trans rfl
 go_wp2_with fail
 refine (natural_rd p l 36 w1 (HA1.out.rdr HR.out.len) (by decide)).mono ?_
 intro e w2 h2
 rcases h2.elim with ⟨n, r, v, hd, rfl, rfl, ha⟩ | ⟨hd, rfl, hb, hk⟩
 ·have HD := Aq.mk hd
  have HA2 := Aq.mk (HA1.out.trans ha)
  have hlg : g < w1.heap.size := q16q HG1.out
  have HG2 := Aq.mk (show w2.heap[g]? = _ from (ha.keep.2 g hlg hne (by simp)).trans HG1.out)
  have hlv : w.heap.size < w1.heap.size := q16q HV1.out
  have HV2 := Aq.mk (show w2.heap[w.heap.size]? = _ from (ha.keep.2 _ hlv (by omega) (by simp)).trans HV1.out)
  clear hd ha g1 h2
  go_upto_region 2 with (fail)
  obtain ⟨w3, hw3⟩ : ∃ x, x = w2.alloc (.cells #[.int .i64 (n : Int), .int .i64 0, .int .i64 0] 52) := ⟨_, rfl⟩
  rw [← hw3]
  have HU3 := Aq.mk (show w3.heap[w2.heap.size]? = some (.cells #[.int .i64 (n : Int), .int .i64 0, .int .i64 0] 52 (0, 0)) from hw3 ▸ blk_new _ _)
  have hb3 : Below w2.heap.size w2 w3 := hw3 ▸ q4q (Below.refl _ _) _
  clear hw3
  have HA3 := Aq.mk (HA2.out.below hb3)
  have HG3 := Aq.mk (q13q HG2.out hb3)
  have HV3 := Aq.mk (q13q HV2.out hb3)
  have hvu : w.heap.size < w2.heap.size := q16q HV2.out
  generalize w2.heap.size = u at HU3 hvu ⊢
  clear hb3
  have hg3 : w3.cell? ⟨g, 0, none⟩ = some (.pointer (some ⟨p, 0, none⟩)) := (q3q HG3.out 0).trans rfl
  go_wp2_with fail
  refine (natural_rd p r 250 w3 (HA3.out.rdr (Nat.le_trans (Cod.len _ HD.out) HR.out.len)) (by decide)).mono ?_
  intro e w4 h4
  rcases h4.elim with ⟨n2, r2, v, hd2, rfl, rfl, ha⟩ | ⟨hd2, rfl, hb, hk⟩
  ·have HD2 := Aq.mk hd2
   have HA4 := Aq.mk (HA3.out.trans ha)
   have HV4 := Aq.mk (show w4.heap[w.heap.size]? = _ from (ha.keep.2 _ (q16q HV3.out) (by omega) (by simp)).trans HV3.out)
   have HU4 := Aq.mk (show w4.heap[u]? = _ from (ha.keep.2 _ (q16q HU3.out) (by omega) (by simp)).trans HU3.out)
   have HG4 := Aq.mk (show w4.heap[g]? = _ from (ha.keep.2 g (q16q HG3.out) hne (by simp)).trans HG3.out)
   clear hd2 ha hg3 h4
   have cu1 : w4.cell? ⟨u, 1, none⟩ = some (.int .i64 0) := (q3q HU4.out 1).trans rfl
   have fu1 : w4.frozen? ⟨u, 1, none⟩ = false := q1q HU4.out 1
   go_upto_region 3 with (fail)
   obtain ⟨w5, hw5⟩ : ∃ x, x = w4.setCell ⟨u, 1, none⟩ (.int .i64 (n2 : Int)) := ⟨_, rfl⟩
   rw [← hw5]
   have HA5 := Aq.mk (show Aft p w r2 w5 from hw5 ▸ HA4.out.far (Nat.le_of_lt hvu) hlt _)
   have HU5 := Aq.mk (show w5.heap[u]? = some (.cells #[.int .i64 (n : Int), .int .i64 (n2 : Int), .int .i64 0] 52 (0, 0)) from hw5 ▸ q14q HU4.out 1 _ rfl)
   have HV5 := Aq.mk (show w5.heap[w.heap.size]? = _ from hw5 ▸ q18q HV4.out (by show w.heap.size ≠ u; omega) _)
   have HG5 := Aq.mk (show w5.heap[g]? = _ from hw5 ▸ q18q HG4.out (by show g ≠ u; omega) _)
   clear hw5 cu1 fu1
   have hg5 : w5.cell? ⟨g, 0, none⟩ = some (.pointer (some ⟨p, 0, none⟩)) := (q3q HG5.out 0).trans rfl
   go_wp2_with fail
   refine (natural_rd p r2 16384 w5 (HA5.out.rdr (Nat.le_trans (Cod.len _ HD2.out) (Nat.le_trans (Cod.len _ HD.out) HR.out.len))) (by decide)).mono ?_
   intro e w6 h6
   rcases h6.elim with ⟨n3, r3, v, hd3, rfl, rfl, ha⟩ | ⟨hd3, rfl, hb, hk⟩
   ·have HD3 := Aq.mk hd3
    have HA6 := Aq.mk (HA5.out.trans ha)
    have HV6 := Aq.mk (show w6.heap[w.heap.size]? = _ from (ha.keep.2 _ (q16q HV5.out) (by omega) (by simp)).trans HV5.out)
    have HU6 := Aq.mk (show w6.heap[u]? = _ from (ha.keep.2 _ (q16q HU5.out) (by omega) (by simp)).trans HU5.out)
    clear hd3 ha hg5 h6
    have cu2 : w6.cell? ⟨u, 2, none⟩ = some (.int .i64 0) := (q3q HU6.out 2).trans rfl
    have fu2 : w6.frozen? ⟨u, 2, none⟩ = false := q1q HU6.out 2
    go_upto_region 4 with (fail)
    obtain ⟨w7, hw7⟩ : ∃ x, x = w6.setCell ⟨u, 2, none⟩ (.int .i64 (n3 : Int)) := ⟨_, rfl⟩
    rw [← hw7]
    have HA7 := Aq.mk (show Aft p w r3 w7 from hw7 ▸ HA6.out.far (Nat.le_of_lt hvu) hlt _)
    have HU7 := Aq.mk (show w7.heap[u]? = some (.cells #[.int .i64 (n : Int), .int .i64 (n2 : Int), .int .i64 (n3 : Int)] 52 (0, 0)) from hw7 ▸ q14q HU6.out 2 _ rfl)
    have HV7 := Aq.mk (show w7.heap[w.heap.size]? = _ from hw7 ▸ q18q HV6.out (by show w.heap.size ≠ u; omega) _)
    clear hw7 cu2 fu2
    have c0 : w7.cell? ⟨u, 0, none⟩ = some (.int .i64 n) := (q3q HU7.out 0).trans rfl
    have c1 : w7.cell? ⟨u, 1, none⟩ = some (.int .i64 n2) := (q3q HU7.out 1).trans rfl
    have c2 : w7.cell? ⟨u, 2, none⟩ = some (.int .i64 n3) := (q3q HU7.out 2).trans rfl
    have cv0 : w7.cell? ⟨w.heap.size, 0, none⟩ = some (.int .i64 0) := (q3q HV7.out 0).trans rfl
    have cv1 : w7.cell? ⟨w.heap.size, 1, none⟩ = some (.int .i64 0) := (q3q HV7.out 1).trans rfl
    have cv2 : w7.cell? ⟨w.heap.size, 2, none⟩ = some (.int .i64 0) := (q3q HV7.out 2).trans rfl
    have fv0 : w7.frozen? ⟨w.heap.size, 0, none⟩ = false := q1q HV7.out 0
    have fv1 : w7.frozen? ⟨w.heap.size, 1, none⟩ = false := q1q HV7.out 1
    have fv2 : w7.frozen? ⟨w.heap.size, 2, none⟩ = false := q1q HV7.out 2
    go_wp2_with fail
    refine bodyPost_ret (results_cell_row rfl _ _ w.heap.size 52 #[.int .i64 (n : Int), .int .i64 (n2 : Int), .int .i64 (n3 : Int)] (0, 0) _ rfl (q14q (q14q (q14q HV7.out 0 _ rfl) 1 _ rfl) 2 _ rfl) Try.underlying52 rfl (by kernel_rfl)) rfl ?_
    refine RdE.yes (Cod.iso_some (Cod.seq_some HD.out (Cod.seq_some HD2.out HD3.out))) ⟨_, rfl, ?_⟩ (Aft.far (Aft.far (Aft.far HA7.out (Nat.le_refl _) hlt _) (Nat.le_refl _) hlt _) (Nat.le_refl _) hlt _)
    exact k52_mkF _ _ (⟨n, n2, n3⟩ : S52)
   ·exact ⟨rfl, RdE.no (Cod.iso_none (Cod.seq_none2 HD.out (Cod.seq_none2 HD2.out hd3))) (HA5.out.bel.trans hb) (HA5.out.keep.trans hk (.inl rfl))⟩
  ·exact ⟨rfl, RdE.no (Cod.iso_none (Cod.seq_none2 HD.out (Cod.seq_none1 hd2))) (HA3.out.bel.trans hb) (HA3.out.keep.trans hk (.inl rfl))⟩
 ·exact ⟨rfl, RdE.no (Cod.iso_none (Cod.seq_none1 hd)) (HA1.out.bel.trans hb) (HA1.out.keep.trans hk (.inl rfl))⟩
def codC : Cod S42 := (Cod.alt Cod.int (Cod.text 4096 (by decide))).iso (fun x => match x with | .inl n => ⟨3, n, ⟨#[]⟩⟩ | .inr t => ⟨5, 0, ⟨t.toArray⟩⟩) (fun c => if c.f0 = 3 then .inl c.f1 else .inr c.f2.data.toList) (fun a h => by
 cases a with
 | inl n => rfl
 | inr t => show (if (5 : Int) = 3 then _ else _) = _; rw [if_neg (by decide)])
namespace Cod
theorem alt_none {α β : Type} {c : Cod α} {d : Cod β} {l : List UInt8} (h : (nat 1).dec l = none) : (c.alt d).dec l = none := by
 show (match (nat 1).dec l with | some (n, r) => if n = 0 then (match c.dec r with | some (x, s) => some (Sum.inl x, s) | none => none) else (match d.dec r with | some (x, s) => some (Sum.inr x, s) | none => none) | none => none) = none
 rw [h]
theorem alt_l {α β : Type} {c : Cod α} {d : Cod β} {l r : List UInt8} (h : (nat 1).dec l = some (0, r)) : (c.alt d).dec l = match c.dec r with | some (x, s) => some (Sum.inl x, s) | none => none := by
 show (match (nat 1).dec l with | some (n, r) => if n = 0 then (match c.dec r with | some (x, s) => some (Sum.inl x, s) | none => none) else (match d.dec r with | some (x, s) => some (Sum.inr x, s) | none => none) | none => none) = _
 rw [h]; rfl
theorem alt_r {α β : Type} {c : Cod α} {d : Cod β} {l r : List UInt8} {n : Nat} (h : (nat 1).dec l = some (n, r)) (hn : n ≠ 0) : (c.alt d).dec l = match d.dec r with | some (x, s) => some (Sum.inr x, s) | none => none := by
 show (match (nat 1).dec l with | some (n, r) => if n = 0 then (match c.dec r with | some (x, s) => some (Sum.inl x, s) | none => none) else (match d.dec r with | some (x, s) => some (Sum.inr x, s) | none => none) | none => none) = _
 rw [h]
 simp only [if_neg hn]
theorem int_none {l : List UInt8} (h : number l = none) : int.dec l = none := iso_none h
theorem int_some {l r : List UInt8} {n : Nat} (h : number l = some (n, r)) : int.dec l = some (zag n, r) := iso_some h
theorem text_none {m : Nat} {hm : m < 2 ^ 64} {l : List UInt8} (h : (nat m).dec l = none) : (text m hm).dec l = none := by
 show (match (nat m).dec l with | some (n, r) => if n ≤ r.length then some (r.take n, r.drop n) else none | none => none) = none
 rw [h]
theorem text_some {m : Nat} {hm : m < 2 ^ 64} {l r : List UInt8} {n : Nat} (h : (nat m).dec l = some (n, r)) : (text m hm).dec l = if n ≤ r.length then some (r.take n, r.drop n) else none := by
 show (match (nat m).dec l with | some (n, r) => if n ≤ r.length then some (r.take n, r.drop n) else none | none => none) = _
 rw [h]
end Cod
theorem wrap_i64 (n : Int) : IntKind.i64.wrap n = (n + 9223372036854775808) % 18446744073709551616 - 9223372036854775808 := by simp [IntKind.wrap, IntKind.bits, IntKind.signed]; omega
theorem xor_zero (k : Nat) (h : k < 9223372036854775808) : bits .xor .i64 (k : Int) 0 = (k : Int) := by
 have h1 : (BitVec.ofInt 64 (k : Int)).toNat = k := by
  rw [BitVec.ofInt_natCast, BitVec.toNat_ofNat]; exact Nat.mod_eq_of_lt (by omega)
 show IntKind.i64.wrap ((BitVec.ofInt 64 (k : Int) ^^^ BitVec.ofInt 64 0).toNat : Int) = _
 rw [BitVec.toNat_xor, h1, show (BitVec.ofInt 64 0).toNat = 0 from rfl, Nat.xor_zero, wrap_i64]
 omega
theorem xor_ones (k : Nat) (h : k < 9223372036854775808) : bits .xor .i64 (k : Int) (-1) = -(k : Int) - 1 := by
 have h1 : (BitVec.ofInt 64 (k : Int)).toNat = k := by
  rw [BitVec.ofInt_natCast, BitVec.toNat_ofNat]; exact Nat.mod_eq_of_lt (by omega)
 show IntKind.i64.wrap ((BitVec.ofInt 64 (k : Int) ^^^ BitVec.ofInt 64 (-1)).toNat : Int) = _
 rw [show BitVec.ofInt 64 (-1) = BitVec.allOnes 64 from by decide, BitVec.xor_allOnes, BitVec.toNat_not, h1, wrap_i64]
 omega
theorem zag_bits (m : Nat) (h : m < 2 ^ 64) : bits .xor .i64 (wrap64 ((m : Int) / 2)) (wrap64 (-wrap64 (bits .and .u64 (m : Int) 1))) = Cod.zag m := by
 have h18 : m < 18446744073709551616 := h
 have ha : bits .and .u64 (m : Int) 1 = ((m % 2 : Nat) : Int) := by
  have := bits_and_u64_nat m 1 h18 (by decide)
  rw [Nat.and_one_is_mod] at this
  exact this
 rw [ha]
 have e1 : wrap64 ((m : Int) / 2) = ((m / 2 : Nat) : Int) := by unfold wrap64; omega
 rw [e1]
 unfold Cod.zag
 by_cases hm : m % 2 = 0
 ·rw [hm, if_pos rfl, show wrap64 (-wrap64 ((0 : Nat) : Int)) = 0 from by unfold wrap64; omega, xor_zero _ (by omega)]
 rw [show m % 2 = 1 by omega, if_neg (by decide), show wrap64 (-wrap64 ((1 : Nat) : Int)) = -1 from by unfold wrap64; omega, xor_ones _ (by omega)]
theorem extract_take {s : ByteArray} {l : List UInt8} (hs : s.data.toList = l) (k : Nat) : s.extract 0 k = ⟨(l.take k).toArray⟩ := by
 subst hs
 ext1
 simp
 apply Array.toList_inj.mp
 simp [List.extract]
set_option maxHeartbeats 1000000 in
theorem constant_any (p : Nat) (l : List UInt8) (w : World) (h : Rdr p l w) :
  Calls Try.prog 47 #[.pointer (some ⟨p, 0, none⟩)] w fun e w' => RdE p codC.dec (El k42) l w e w' := by
 have HR := Aq.mk h
 have hlt : p < w.heap.size := h.lt
 clear h
 go_enter Try.func47, Try.ntmps47
 go_upto_region 1 with (fail)
 obtain ⟨w1, hw1⟩ : ∃ x, x = w.alloc (.cells #[.int .i64 0, .int .i64 0, .string ⟨#[]⟩] 42) := ⟨_, rfl⟩
 rw [← hw1]
 have HA1 := Aq.mk (show Aft p w l w1 from hw1 ▸ HR.out.aft.alloc _)
 have HV1 := Aq.mk (show w1.heap[w.heap.size]? = some (.cells #[.int .i64 0, .int .i64 0, .string ⟨#[]⟩] 42 (0, 0)) from hw1 ▸ blk_new _ _)
 clear hw1
 go_wp2_with fail
 refine (natural_rd p l 1 w1 (HA1.out.rdr HR.out.len) (by decide)).mono ?_
 intro e w2 h2
 rcases h2.elim with ⟨n, r, v, hd, rfl, rfl, ha⟩ | ⟨hd, rfl, hb, hk⟩
 ·have HD := Aq.mk hd
  have HA2 := Aq.mk (HA1.out.trans ha)
  have HV2 := Aq.mk (show w2.heap[w.heap.size]? = _ from (ha.keep.2 _ (q16q HV1.out) (by omega) (by simp)).trans HV1.out)
  have HL2 := Aq.mk (show r.length ≤ 10000000 from Nat.le_trans (Cod.len _ hd) HR.out.len)
  clear hd ha h2
  by_cases hn0 : (n : Int) = 0
  ·rw [hn0]
   have hD0 : (Cod.nat 1).dec l = some (0, r) := by rw [HD.out, show n = 0 by omega]
   have HD0 := Aq.mk hD0
   clear hn0 hD0 HD
   obtain ⟨s2, hs2, hp2⟩ := HA2.out.blk
   have HS2 := Aq.mk hs2
   have HP2 := Aq.mk hp2
   clear hs2 hp2
   go_wp2_with fail
   refine (number_any p s2 r w2 HP2.out HS2.out HL2.out).mono ?_
   intro e w3 h3
   unfold NumR at h3
   cases hnum : number r with
   | none =>
    rw [hnum] at h3
    obtain ⟨rfl, rfl⟩ := h3
    have hz : codC.dec l = none := Cod.iso_none (by rw [Cod.alt_l HD0.out, Cod.int_none hnum])
    exact ⟨rfl, RdE.no hz HA2.out.bel HA2.out.keep⟩
   | some y =>
    obtain ⟨m, r3⟩ := y
    rw [hnum] at h3
    obtain ⟨s3, hs3, rfl, hw3⟩ := h3
    have hz : codC.dec l = some (⟨3, Cod.zag m, ⟨#[]⟩⟩, r3) := Cod.iso_some (x := Sum.inl (Cod.zag m)) (by rw [Cod.alt_l HD0.out, Cod.int_some hnum])
    have HZ := Aq.mk hz
    have HM := Aq.mk (show m < 2 ^ 64 from (Cod.num.un r m r3 hnum).1)
    have HA3 := Aq.mk (HA2.out.trans (show Aft p w2 r3 w3 from hw3 ▸ ⟨(Below.refl p w2).setCell (p := ⟨p, 0, none⟩) (Nat.le_refl _) _, (KeepBut.refl w2 p none).set_ 0 _, s3, hs3, blk_set HP2.out 0 _⟩))
    have HV3 := Aq.mk (show w3.heap[w.heap.size]? = _ from hw3 ▸ q18q HV2.out (by show w.heap.size ≠ p; omega) _)
    clear hz hnum hw3 hs3
    have cv0 : w3.cell? ⟨w.heap.size, 0, none⟩ = some (.int .i64 0) := (q3q HV3.out 0).trans rfl
    have cv1 : w3.cell? ⟨w.heap.size, 1, none⟩ = some (.int .i64 0) := (q3q HV3.out 1).trans rfl
    have cv2 : w3.cell? ⟨w.heap.size, 2, none⟩ = some (.string ⟨#[]⟩) := (q3q HV3.out 2).trans rfl
    have fv0 : w3.frozen? ⟨w.heap.size, 0, none⟩ = false := q1q HV3.out 0
    have fv1 : w3.frozen? ⟨w.heap.size, 1, none⟩ = false := q1q HV3.out 1
    have fv2 : w3.frozen? ⟨w.heap.size, 2, none⟩ = false := q1q HV3.out 2
    go_wp2_with fail
    rw [zag_bits m HM.out]
    refine bodyPost_ret (results_cell_row rfl _ _ w.heap.size 42 #[.int .i64 3, .int .i64 (Cod.zag m), .string ⟨#[]⟩] (0, 0) _ rfl (q14q (q14q (q14q HV3.out 0 _ rfl) 1 _ rfl) 2 _ rfl) Try.underlying42 rfl (by kernel_rfl)) rfl ?_
    refine RdE.yes HZ.out ⟨_, rfl, ?_⟩ (Aft.far (Aft.far (Aft.far HA3.out (Nat.le_refl _) hlt _) (Nat.le_refl _) hlt _) (Nat.le_refl _) hlt _)
    exact k42_mkF _ _ (⟨3, Cod.zag m, ⟨#[]⟩⟩ : S42)
  have hnb : ((n : Int) == 0) = false := beq_eq_false_iff_ne.mpr hn0
  go_wp2_with fail
  refine (natural_rd p r 4096 w2 (HA2.out.rdr HL2.out) (by decide)).mono ?_
  intro e w3 h3
  rcases h3.elim with ⟨m, r3, v, hd3, rfl, rfl, ha⟩ | ⟨hd3, rfl, hb, hk⟩
  ·have HD3 := Aq.mk hd3
   have HA3 := Aq.mk (HA2.out.trans ha)
   have HV3 := Aq.mk (show w3.heap[w.heap.size]? = _ from (ha.keep.2 _ (q16q HV2.out) (by omega) (by simp)).trans HV2.out)
   have hl3 : r3.length ≤ 10000000 := Nat.le_trans (Cod.len _ hd3) HL2.out
   have hm : m ≤ 4096 := Cod.nat_le hd3
   have HZ := Aq.mk (show codC.dec l = if m ≤ r3.length then some (⟨5, 0, ⟨(r3.take m).toArray⟩⟩, r3.drop m) else none by
    by_cases hle : m ≤ r3.length
    ·rw [if_pos hle]
     exact Cod.iso_some (x := Sum.inr (r3.take m)) (by rw [Cod.alt_r HD.out (by omega), Cod.text_some hd3, if_pos hle])
    ·rw [if_neg hle]
     exact Cod.iso_none (by rw [Cod.alt_r HD.out (by omega), Cod.text_some hd3, if_neg hle]))
   obtain ⟨s3, hs3, hp3⟩ := HA3.out.blk
   have hsz : s3.size = r3.length := by rw [← hs3, Array.length_toList]; rfl
   have HS3 := Aq.mk hs3
   have HP3 := Aq.mk hp3
   clear hs3 hp3 hd3 ha h3
   have cp : w3.cell? ⟨p, 0, none⟩ = some (.string s3) := (q3q HP3.out 0).trans rfl
   go_wp2_with fail
   refine (need_any _ _).mono ?_
   rintro e w4 ⟨rfl, he⟩
   by_cases hle : m ≤ r3.length
   case neg =>
    rw [decide_eq_false hle, if_neg (by decide)] at he
    subst he
    exact ⟨rfl, RdE.no (by rw [HZ.out, if_neg (by omega)]) HA3.out.bel HA3.out.keep⟩
   rw [decide_eq_true hle, if_pos rfl] at he
   subst he
   go_upto_region 7 with (fail)
   obtain ⟨w5, hw5⟩ : ∃ x, x = w4.alloc (.cells #[.int .i64 5, .int .i64 0, .string (s3.extract 0 m)] 42) := ⟨_, rfl⟩
   rw [← hw5]
   have HU5 := Aq.mk (show w5.heap[w4.heap.size]? = some (.cells #[.int .i64 5, .int .i64 0, .string (s3.extract 0 m)] 42 (0, 0)) from hw5 ▸ blk_new _ _)
   have hb5 : Below w4.heap.size w4 w5 := hw5 ▸ q4q (Below.refl _ _) _
   clear hw5 cp
   have HA5 := Aq.mk (HA3.out.below hb5)
   have HV5 := Aq.mk (q13q HV3.out hb5)
   have HP5 := Aq.mk (q13q HP3.out hb5)
   have hvu : w.heap.size < w4.heap.size := q16q HV3.out
   generalize w4.heap.size = u at HU5 hvu ⊢
   clear hb5
   have cp : w5.cell? ⟨p, 0, none⟩ = some (.string s3) := (q3q HP5.out 0).trans rfl
   have fp : w5.frozen? ⟨p, 0, none⟩ = false := q1q HP5.out 0
   have hle' : (m : Int) ≤ (s3.size : Int) := by omega
   go_upto_region 8 with (fail)
   obtain ⟨w6, hw6⟩ : ∃ x, x = w5.setCell ⟨p, 0, none⟩ (.string (s3.extract m r3.length)) := ⟨_, rfl⟩
   rw [← hw6]
   have HA6 := Aq.mk (HA5.out.trans (show Aft p w5 (r3.drop m) w6 from hw6 ▸ ⟨(Below.refl p w5).setCell (p := ⟨p, 0, none⟩) (Nat.le_refl _) _, (KeepBut.refl w5 p none).set_ 0 _, _, extract_drop HS3.out m, blk_set HP5.out 0 _⟩))
   have HU6 := Aq.mk (show w6.heap[u]? = _ from hw6 ▸ q18q HU5.out (by show u ≠ p; omega) _)
   have HV6 := Aq.mk (show w6.heap[w.heap.size]? = _ from hw6 ▸ q18q HV5.out (by show w.heap.size ≠ p; omega) _)
   clear hw6 cp fp
   have c0 : w6.cell? ⟨u, 0, none⟩ = some (.int .i64 5) := (q3q HU6.out 0).trans rfl
   have c1 : w6.cell? ⟨u, 1, none⟩ = some (.int .i64 0) := (q3q HU6.out 1).trans rfl
   have c2 : w6.cell? ⟨u, 2, none⟩ = some (.string (s3.extract 0 m)) := (q3q HU6.out 2).trans rfl
   have cv0 : w6.cell? ⟨w.heap.size, 0, none⟩ = some (.int .i64 0) := (q3q HV6.out 0).trans rfl
   have cv1 : w6.cell? ⟨w.heap.size, 1, none⟩ = some (.int .i64 0) := (q3q HV6.out 1).trans rfl
   have cv2 : w6.cell? ⟨w.heap.size, 2, none⟩ = some (.string ⟨#[]⟩) := (q3q HV6.out 2).trans rfl
   have fv0 : w6.frozen? ⟨w.heap.size, 0, none⟩ = false := q1q HV6.out 0
   have fv1 : w6.frozen? ⟨w.heap.size, 1, none⟩ = false := q1q HV6.out 1
   have fv2 : w6.frozen? ⟨w.heap.size, 2, none⟩ = false := q1q HV6.out 2
   go_wp2_with fail
   have hex : s3.extract 0 m = ⟨(r3.take m).toArray⟩ := extract_take HS3.out m
   rw [hex]
   refine bodyPost_ret (results_cell_row rfl _ _ w.heap.size 42 #[.int .i64 5, .int .i64 0, .string ⟨(r3.take m).toArray⟩] (0, 0) _ rfl (q14q (q14q (q14q HV6.out 0 _ rfl) 1 _ rfl) 2 _ rfl) Try.underlying42 rfl (by kernel_rfl)) rfl ?_
   refine RdE.yes (by rw [HZ.out, if_pos hle]) ⟨_, rfl, ?_⟩ (Aft.far (Aft.far (Aft.far HA6.out (Nat.le_refl _) hlt _) (Nat.le_refl _) hlt _) (Nat.le_refl _) hlt _)
   exact k42_mkF _ _ (⟨5, 0, ⟨(r3.take m).toArray⟩⟩ : S42)
  ·exact ⟨rfl, RdE.no (Cod.iso_none (by rw [Cod.alt_r HD.out (by omega), Cod.text_none hd3])) (HA2.out.bel.trans hb) (HA2.out.keep.trans hk (.inl rfl))⟩
 ·exact ⟨rfl, RdE.no (Cod.iso_none (Cod.alt_none hd)) (HA1.out.bel.trans hb) (HA1.out.keep.trans hk (.inl rfl))⟩
namespace Cod
theorem list_none {α : Type} {m : Nat} {hm : m < 2 ^ 64} {c : Cod α} {l : List UInt8} (h : (nat m).dec l = none) : (list m hm c).dec l = none := by
 show (match (nat m).dec l with | some (n, r) => repDec c n r | none => none) = none
 rw [h]
theorem list_some {α : Type} {m : Nat} {hm : m < 2 ^ 64} {c : Cod α} {l r : List UInt8} {n : Nat} (h : (nat m).dec l = some (n, r)) : (list m hm c).dec l = repDec c n r := by
 show (match (nat m).dec l with | some (n, r) => repDec c n r | none => none) = _
 rw [h]
def RepAt {α : Type} (c : Cod α) (n : Nat) (r : List UInt8) (i : Nat) (xs : List α) (ri : List UInt8) : Prop := repDec c n r = match repDec c (n - i) ri with | some (ys, s) => some (xs ++ ys, s) | none => none
theorem RepAt.zero {α : Type} (c : Cod α) (n : Nat) (r : List UInt8) : RepAt c n r 0 [] r := by
 unfold RepAt
 rw [Nat.sub_zero]
 cases repDec c n r <;> rfl
theorem RepAt.step {α : Type} {c : Cod α} {n i : Nat} {r ri r2 : List UInt8} {xs : List α} {x : α} (h : RepAt c n r i xs ri) (hi : i < n) (hd : c.dec ri = some (x, r2)) : RepAt c n r (i + 1) (xs ++ [x]) r2 := by
 unfold RepAt at h ⊢
 rw [h, show n - i = (n - (i + 1)) + 1 by omega]
 show (match (match c.dec ri with | some (x, r) => (match repDec c (n - (i + 1)) r with | some (xs, s) => some (x :: xs, s) | none => none) | none => none) with | some (ys, s) => some (xs ++ ys, s) | none => none) = _
 rw [hd]
 simp only
 cases repDec c (n - (i + 1)) r2 with
 | none => rfl
 | some y => simp
theorem RepAt.fail {α : Type} {c : Cod α} {n i : Nat} {r ri : List UInt8} {xs : List α} (h : RepAt c n r i xs ri) (hi : i < n) (hd : c.dec ri = none) : repDec c n r = none := by
 unfold RepAt at h
 rw [h, show n - i = (n - (i + 1)) + 1 by omega]
 show (match (match c.dec ri with | some (x, r) => (match repDec c (n - (i + 1)) r with | some (xs, s) => some (x :: xs, s) | none => none) | none => none) with | some (ys, s) => some (xs ++ ys, s) | none => none) = _
 rw [hd]
theorem RepAt.done {α : Type} {c : Cod α} {n i : Nat} {r ri : List UInt8} {xs : List α} (h : RepAt c n r i xs ri) (hi : i = n) : repDec c n r = some (xs, ri) := by
 unfold RepAt at h
 rw [h, show n - i = 0 by omega]
 show some (xs ++ [], ri) = _
 rw [List.append_nil]
end Cod
theorem Aft.belowB {p : Nat} {w w2 w1 : World} {r : List UInt8} (h : Aft p w r w2) (hp : p < w.heap.size) (hb : Below w.heap.size w2 w1) : Aft p w r w1 := by
 obtain ⟨s, hs, hk⟩ := h.blk
 exact ⟨h.bel.trans (hb.mono (Nat.le_of_lt hp)), ⟨Nat.le_trans h.keep.1 hb.size, fun i hi hg hr => (hb.block i hi).trans (h.keep.2 i hi hg hr)⟩, s, hs, (hb.block p hp).trans hk⟩
def Ls {α : Type} (d : Kd α) (e : Nat) (w w' : World) (xs : List α) (v : Value) : Prop := Kd.N d e w' w.heap.size (fun k => w.heap.size ≤ k) v xs
set_option maxHeartbeats 1000000 in
theorem list44_any (p g : Nat) (l : List UInt8) (w : World) (h : Rdr p l w) (hg : w.heap[g]? = some (.cells #[.pointer (some ⟨p, 0, none⟩)] 61 (0, 0))) (hne : g ≠ p) :
  Calls Try.prog 44 #[.pointer (some ⟨p, 0, none⟩), .int .i64 60, .func (.func 45) #[] #[.pointer (some ⟨g, 0, none⟩)]] w fun e w' => RdE p (Cod.list 60 (by decide) codU).dec (Ls k50 50) l w e w' := by
 have HR := Aq.mk h
 have hlt : p < w.heap.size := h.lt
 have HG := Aq.mk hg
 have hgl : g < w.heap.size := q16q hg
 clear hg
 clear h
 go_enter Try.func44, Try.ntmps44
 go_wp2_with fail
 refine (natural_rd p l 60 w HR.out (by decide)).mono ?_
 intro e w1 h1
 rcases h1.elim with ⟨n, r, v, hd, rfl, rfl, ha⟩ | ⟨hd, rfl, hb, hk⟩
 ·have HD := Aq.mk hd
  have HA := Aq.mk ha
  have hn : n ≤ 60 := Cod.nat_le hd
  have HL := Aq.mk (show r.length ≤ 10000000 from Nat.le_trans (Cod.len _ hd) HR.out.len)
  clear hd ha h1
  go_wp2_with fail
  go_loopw [7, 11] (fun v7 v11 wr => ∃ (i : Nat) (xs : List S50) (ri : List UInt8), v11 = .int .i64 (i : Int) ∧ i ≤ n ∧ xs.length = i ∧ Aq (Kd.N k50 50 wr w.heap.size (fun k => w.heap.size ≤ k) v7 xs) ∧ Aq (Aft p w ri wr) ∧ Aq (Cod.RepAt codU n r i xs ri) ∧ Aq (ri.length ≤ 10000000)) (fun _ v11 _ => n - (intOf v11).toNat)
  case atStart => exact ⟨0, [], r, rfl, Nat.zero_le _, rfl, ⟨Kd.N_nil _ _ _ _ _⟩, HA, ⟨Cod.RepAt.zero _ _ _⟩, HL⟩
  case round =>
   obtain ⟨i, xs, ri, rfl, hi, hxs, HN, HAr, HP, HLr⟩ := hrel
   by_cases hin : (i : Int) < (n : Int)
   case neg =>
    have hz : (Cod.list 60 (by decide) codU).dec l = some (xs, ri) := by rw [Cod.list_some HD.out]; exact HP.out.done (by omega)
    go_wp2_with fail
    go_ret
    exact RdE.yes hz HN.out HAr.out
   go_wp2_with fail
   refine (up_any p g ri wr (HAr.out.rdr HLr.out) ((HAr.out.keep.2 g hgl hne (by simp)).trans HG.out) hne).mono ?_
   intro e w2 h2
   rcases h2.elim with ⟨x, r2, v, hd2, rfl, ⟨cs, rfl, hfk⟩, ha⟩ | ⟨hd2, rfl, hb, hk⟩
   ·obtain rfl := k50_open (Kd.FK_now hfk)
    have HF := Aq.mk hfk
    have HA2 := Aq.mk (HAr.out.trans ha)
    have HN2 := Aq.mk (Kd.N_keep HN.out ha.keep (fun k hk => by omega))
    have HP2 := Aq.mk (HP.out.step (by omega) hd2)
    have HL2 := Aq.mk (show r2.length ≤ 10000000 from Nat.le_trans (Cod.len _ hd2) HLr.out)
    have HW := Aq.mk (show w.heap.size ≤ wr.heap.size from HAr.out.keep.1)
    have HW2 := Aq.mk (show w.heap.size ≤ w2.heap.size from HA2.out.keep.1)
    have HO := Aq.mk (Kd.N_lt HN.out)
    clear hfk ha hd2 h2
    go_wp2_with (at_builtin; (refine Kd.N_append k50 (w0 := w2) w.heap.size rfl (.tmp 13) (.tmp 16) 43 50 (.agg #[(.bool false), (.int .i64 0)]) 16 rfl Try.underlying43 info50 rfl (by decide) (by decide) u7 xs x [.bool x.f0, .int .i64 x.f1] (fun k => w.heap.size ≤ k) (fun k => wr.heap.size ≤ k) ?aS ?aX HF.out ?aK (fun _ hk => Nat.le_trans HW2.out hk) HN2.out (Below.refl _ _) HW2.out ?aL ?_; (case aS => simp [Act.eval]); (case aX => simp [Act.eval]); (case aK => exact fun k hk => ⟨Nat.le_trans HW.out hk, fun e => by have := HO.out k e.symm; omega⟩); (case aL => rw [hxs]; omega); intro v1 w3 HN3 hb3 hg3 hat3; replace HN3 := Aq.mk HN3; replace hb3 := Aq.mk hb3; clear hg3 hat3))
    go_roundw
    case rel => exact ⟨i + 1, xs ++ [x], r2, by simp, by omega, by simp [hxs], HN3, ⟨HA2.out.belowB hlt hb3.out⟩, HP2, HL2⟩
    case measure => simp [intOf]; omega
   ·exact ⟨rfl, RdE.no (by rw [Cod.list_some HD.out]; exact HP.out.fail (by omega) hd2) (HAr.out.bel.trans hb) (HAr.out.keep.trans hk (.inl rfl))⟩
 ·exact ⟨rfl, RdE.no (Cod.list_none hd) hb hk⟩
set_option maxHeartbeats 1000000 in
theorem list48_any (p g : Nat) (l : List UInt8) (w : World) (h : Rdr p l w) (hg : w.heap[g]? = some (.cells #[.pointer (some ⟨p, 0, none⟩)] 61 (0, 0))) (hne : g ≠ p) :
  Calls Try.prog 48 #[.pointer (some ⟨p, 0, none⟩), .int .i64 16384, .func (.func 49) #[] #[.pointer (some ⟨g, 0, none⟩)]] w fun e w' => RdE p (Cod.list 16384 (by decide) codI).dec (Ls k52 52) l w e w' := by
 have HR := Aq.mk h
 have hlt : p < w.heap.size := h.lt
 have HG := Aq.mk hg
 have hgl : g < w.heap.size := q16q hg
 clear hg
 clear h
 go_enter Try.func48, Try.ntmps48
 go_wp2_with fail
 refine (natural_rd p l 16384 w HR.out (by decide)).mono ?_
 intro e w1 h1
 rcases h1.elim with ⟨n, r, v, hd, rfl, rfl, ha⟩ | ⟨hd, rfl, hb, hk⟩
 ·have HD := Aq.mk hd
  have HA := Aq.mk ha
  have hn : n ≤ 16384 := Cod.nat_le hd
  have HL := Aq.mk (show r.length ≤ 10000000 from Nat.le_trans (Cod.len _ hd) HR.out.len)
  clear hd ha h1
  go_wp2_with fail
  go_loopw [7, 11] (fun v7 v11 wr => ∃ (i : Nat) (xs : List S52) (ri : List UInt8), v11 = .int .i64 (i : Int) ∧ i ≤ n ∧ xs.length = i ∧ Aq (Kd.N k52 52 wr w.heap.size (fun k => w.heap.size ≤ k) v7 xs) ∧ Aq (Aft p w ri wr) ∧ Aq (Cod.RepAt codI n r i xs ri) ∧ Aq (ri.length ≤ 10000000)) (fun _ v11 _ => n - (intOf v11).toNat)
  case atStart => exact ⟨0, [], r, rfl, Nat.zero_le _, rfl, ⟨Kd.N_nil _ _ _ _ _⟩, HA, ⟨Cod.RepAt.zero _ _ _⟩, HL⟩
  case round =>
   obtain ⟨i, xs, ri, rfl, hi, hxs, HN, HAr, HP, HLr⟩ := hrel
   by_cases hin : (i : Int) < (n : Int)
   case neg =>
    have hz : (Cod.list 16384 (by decide) codI).dec l = some (xs, ri) := by rw [Cod.list_some HD.out]; exact HP.out.done (by omega)
    go_wp2_with fail
    go_ret
    exact RdE.yes hz HN.out HAr.out
   go_wp2_with fail
   refine (instr_any p g ri wr (HAr.out.rdr HLr.out) ((HAr.out.keep.2 g hgl hne (by simp)).trans HG.out) hne).mono ?_
   intro e w2 h2
   rcases h2.elim with ⟨x, r2, v, hd2, rfl, ⟨cs, rfl, hfk⟩, ha⟩ | ⟨hd2, rfl, hb, hk⟩
   ·obtain rfl := k52_open (Kd.FK_now hfk)
    have HF := Aq.mk hfk
    have HA2 := Aq.mk (HAr.out.trans ha)
    have HN2 := Aq.mk (Kd.N_keep HN.out ha.keep (fun k hk => by omega))
    have HP2 := Aq.mk (HP.out.step (by omega) hd2)
    have HL2 := Aq.mk (show r2.length ≤ 10000000 from Nat.le_trans (Cod.len _ hd2) HLr.out)
    have HW := Aq.mk (show w.heap.size ≤ wr.heap.size from HAr.out.keep.1)
    have HW2 := Aq.mk (show w.heap.size ≤ w2.heap.size from HA2.out.keep.1)
    have HO := Aq.mk (Kd.N_lt HN.out)
    clear hfk ha hd2 h2
    go_wp2_with (at_builtin; (refine Kd.N_append k52 (w0 := w2) w.heap.size rfl (.tmp 13) (.tmp 16) 45 52 (.agg #[(.int .i64 0), (.int .i64 0), (.int .i64 0)]) 24 rfl Try.underlying45 info52 rfl (by decide) (by decide) u7 xs x [.int .i64 x.f0, .int .i64 x.f1, .int .i64 x.f2] (fun k => w.heap.size ≤ k) (fun k => wr.heap.size ≤ k) ?aS ?aX HF.out ?aK (fun _ hk => Nat.le_trans HW2.out hk) HN2.out (Below.refl _ _) HW2.out ?aL ?_; (case aS => simp [Act.eval]); (case aX => simp [Act.eval]); (case aK => exact fun k hk => ⟨Nat.le_trans HW.out hk, fun e => by have := HO.out k e.symm; omega⟩); (case aL => rw [hxs]; omega); intro v1 w3 HN3 hb3 hg3 hat3; replace HN3 := Aq.mk HN3; replace hb3 := Aq.mk hb3; clear hg3 hat3))
    go_roundw
    case rel => exact ⟨i + 1, xs ++ [x], r2, by simp, by omega, by simp [hxs], HN3, ⟨HA2.out.belowB hlt hb3.out⟩, HP2, HL2⟩
    case measure => simp [intOf]; omega
   ·exact ⟨rfl, RdE.no (by rw [Cod.list_some HD.out]; exact HP.out.fail (by omega) hd2) (HAr.out.bel.trans hb) (HAr.out.keep.trans hk (.inl rfl))⟩
 ·exact ⟨rfl, RdE.no (Cod.list_none hd) hb hk⟩
set_option maxHeartbeats 1000000 in
theorem list46_any (p : Nat) (l : List UInt8) (w : World) (h : Rdr p l w) :
  Calls Try.prog 46 #[.pointer (some ⟨p, 0, none⟩), .int .i64 4096, .func (.func 47) #[.pointer (some ⟨p, 0, none⟩)] #[]] w fun e w' => RdE p (Cod.list 4096 (by decide) codC).dec (Ls k42 42) l w e w' := by
 have HR := Aq.mk h
 have hlt : p < w.heap.size := h.lt
 clear h
 go_enter Try.func46, Try.ntmps46
 go_wp2_with fail
 refine (natural_rd p l 4096 w HR.out (by decide)).mono ?_
 intro e w1 h1
 rcases h1.elim with ⟨n, r, v, hd, rfl, rfl, ha⟩ | ⟨hd, rfl, hb, hk⟩
 ·have HD := Aq.mk hd
  have HA := Aq.mk ha
  have hn : n ≤ 4096 := Cod.nat_le hd
  have HL := Aq.mk (show r.length ≤ 10000000 from Nat.le_trans (Cod.len _ hd) HR.out.len)
  clear hd ha h1
  go_wp2_with fail
  go_loopw [7, 11] (fun v7 v11 wr => ∃ (i : Nat) (xs : List S42) (ri : List UInt8), v11 = .int .i64 (i : Int) ∧ i ≤ n ∧ xs.length = i ∧ Aq (Kd.N k42 42 wr w.heap.size (fun k => w.heap.size ≤ k) v7 xs) ∧ Aq (Aft p w ri wr) ∧ Aq (Cod.RepAt codC n r i xs ri) ∧ Aq (ri.length ≤ 10000000)) (fun _ v11 _ => n - (intOf v11).toNat)
  case atStart => exact ⟨0, [], r, rfl, Nat.zero_le _, rfl, ⟨Kd.N_nil _ _ _ _ _⟩, HA, ⟨Cod.RepAt.zero _ _ _⟩, HL⟩
  case round =>
   obtain ⟨i, xs, ri, rfl, hi, hxs, HN, HAr, HP, HLr⟩ := hrel
   by_cases hin : (i : Int) < (n : Int)
   case neg =>
    have hz : (Cod.list 4096 (by decide) codC).dec l = some (xs, ri) := by rw [Cod.list_some HD.out]; exact HP.out.done (by omega)
    go_wp2_with fail
    go_ret
    exact RdE.yes hz HN.out HAr.out
   go_wp2_with fail
   refine (constant_any p ri wr (HAr.out.rdr HLr.out)).mono ?_
   intro e w2 h2
   rcases h2.elim with ⟨x, r2, v, hd2, rfl, ⟨cs, rfl, hfk⟩, ha⟩ | ⟨hd2, rfl, hb, hk⟩
   ·obtain rfl := k42_open (Kd.FK_now hfk)
    have HF := Aq.mk hfk
    have HA2 := Aq.mk (HAr.out.trans ha)
    have HN2 := Aq.mk (Kd.N_keep HN.out ha.keep (fun k hk => by omega))
    have HP2 := Aq.mk (HP.out.step (by omega) hd2)
    have HL2 := Aq.mk (show r2.length ≤ 10000000 from Nat.le_trans (Cod.len _ hd2) HLr.out)
    have HW := Aq.mk (show w.heap.size ≤ wr.heap.size from HAr.out.keep.1)
    have HW2 := Aq.mk (show w.heap.size ≤ w2.heap.size from HA2.out.keep.1)
    have HO := Aq.mk (Kd.N_lt HN.out)
    clear hfk ha hd2 h2
    go_wp2_with (at_builtin; (refine Kd.N_append k42 (w0 := w2) w.heap.size rfl (.tmp 13) (.tmp 16) 44 42 (.agg #[(.int .i64 0), (.int .i64 0), (.string ⟨#[]⟩)]) 32 rfl Try.underlying44 info42 rfl (by decide) (by decide) u7 xs x [.int .i64 x.f0, .int .i64 x.f1, .string x.f2] (fun k => w.heap.size ≤ k) (fun k => wr.heap.size ≤ k) ?aS ?aX HF.out ?aK (fun _ hk => Nat.le_trans HW2.out hk) HN2.out (Below.refl _ _) HW2.out ?aL ?_; (case aS => simp [Act.eval]); (case aX => simp [Act.eval]); (case aK => exact fun k hk => ⟨Nat.le_trans HW.out hk, fun e => by have := HO.out k e.symm; omega⟩); (case aL => rw [hxs]; omega); intro v1 w3 HN3 hb3 hg3 hat3; replace HN3 := Aq.mk HN3; replace hb3 := Aq.mk hb3; clear hg3 hat3))
    go_roundw
    case rel => exact ⟨i + 1, xs ++ [x], r2, by simp, by omega, by simp [hxs], HN3, ⟨HA2.out.belowB hlt hb3.out⟩, HP2, HL2⟩
    case measure => simp [intOf]; omega
   ·exact ⟨rfl, RdE.no (by rw [Cod.list_some HD.out]; exact HP.out.fail (by omega) hd2) (HAr.out.bel.trans hb) (HAr.out.keep.trans hk (.inl rfl))⟩
 ·exact ⟨rfl, RdE.no (Cod.list_none hd) hb hk⟩
def codP : Cod S47 := (Cod.seq (Cod.nat 20) (Cod.seq (Cod.nat 250) (Cod.seq (Cod.list 60 (by decide) codU) (Cod.seq (Cod.list 4096 (by decide) codC) (Cod.list 16384 (by decide) codI))))).iso (fun x => ⟨x.1, x.2.1, x.2.2.1, x.2.2.2.1, x.2.2.2.2⟩) (fun q => (q.f0.toNat, q.f1.toNat, q.f2, q.f3, q.f4)) (fun a _ => rfl)
structure PA (p : Nat) (w : World) (u vr : Nat) (r : List UInt8) (cs : Array Value) (w1 : World) : Prop where
 aft : Aft p w r w1
 len : r.length ≤ 10000000
 hp : p < w.heap.size
 hv : vr = w.heap.size + 1
 hu : w.heap.size + 1 < u
 rd : w1.heap[w.heap.size]? = some (.cells #[.pointer (some ⟨p, 0, none⟩)] 61 (0, 0))
 rv : w1.heap[vr]? = some (.cells #[.int .i64 0, .int .i64 0, .slice none 0 0, .slice none 0 0, .slice none 0 0] 47 (0, 0))
 pv : w1.heap[u]? = some (.cells cs 47 (0, 0))
theorem PA.keep {p : Nat} {w : World} {u vr : Nat} {r r2 : List UInt8} {cs : Array Value} {w1 w2 : World} (h : PA p w u vr r cs w1) (ha : Aft p w1 r2 w2) (hl : r2.length ≤ r.length) : PA p w u vr r2 cs w2 := by
 have h1 := h.hp
 have h2 := h.hu
 have h3 := h.hv
 exact ⟨h.aft.trans ha, Nat.le_trans hl h.len, h1, h3, h2, (ha.keep.2 _ (q16q h.rd) (by omega) (by simp)).trans h.rd, (ha.keep.2 _ (q16q h.rv) (by omega) (by simp)).trans h.rv, (ha.keep.2 _ (q16q h.pv) (by omega) (by simp)).trans h.pv⟩
theorem PA.put {p : Nat} {w : World} {u vr : Nat} {r : List UInt8} {cs cs' : Array Value} {w1 : World} (h : PA p w u vr r cs w1) (i : Nat) (v : Value) (e : cs.setIfInBounds i v = cs') : PA p w u vr r cs' (w1.setCell ⟨u, i, none⟩ v) := by
 have h1 := h.hp
 have h2 := h.hu
 have h3 := h.hv
 exact ⟨h.aft.far (show w.heap.size ≤ u by omega) h1 v, h.len, h1, h3, h2, q18q h.rd (show w.heap.size ≠ u by omega) v, q18q h.rv (show vr ≠ u by omega) v, q14q h.pv i v e⟩
theorem PA.g {p : Nat} {w : World} {u vr : Nat} {r : List UInt8} {cs : Array Value} {w1 : World} (h : PA p w u vr r cs w1) : w1.cell? ⟨w.heap.size, 0, none⟩ = some (.pointer (some ⟨p, 0, none⟩)) := (q3q h.rd 0).trans rfl
theorem PA.rdr {p : Nat} {w : World} {u vr : Nat} {r : List UInt8} {cs : Array Value} {w1 : World} (h : PA p w u vr r cs w1) : Rdr p r w1 := h.aft.rdr h.len
theorem PA.N {α : Type} {d : Kd α} {e : Nat} {xs : List α} {v : Value} {p : Nat} {w : World} {u vr : Nat} {r : List UInt8} {cs : Array Value} {w1 w2 : World} (h : PA p w u vr r cs w1) (hn : Ls d e w1 w2 xs v) : Kd.N d e w2 w.heap.size (fun k => u < k) v xs := Kd.q21q (Kd.N_lower hn h.aft.keep.1) (fun k hk => by have := q16q h.pv; omega)
theorem N_put {α : Type} {d : Kd α} {e b u i : Nat} {x : Value} {xs : List α} {v : Value} {w1 : World} (h : Kd.N d e w1 b (fun k => u < k) v xs) : Kd.N d e (w1.setCell ⟨u, i, none⟩ x) b (fun k => u < k) v xs := Kd.N_far h (fun k (hk : u < k) => show k ≠ u by omega) x
theorem N_aft {α : Type} {d : Kd α} {e b u p : Nat} {xs : List α} {v : Value} {w1 w2 : World} {r : List UInt8} (h : Kd.N d e w1 b (fun k => u < k) v xs) (ha : Aft p w1 r w2) (hp : p < u) : Kd.N d e w2 b (fun k => u < k) v xs := Kd.N_keep h ha.keep (fun k hk => by omega)
theorem N_putv {α : Type} {d : Kd α} {e b u i : Nat} {a : Nat} {x : Value} {xs : List α} {v : Value} {w1 : World} (h : Kd.N d e w1 b (fun k => u < k) v xs) (ha : a < u) : Kd.N d e (w1.setCell ⟨a, i, none⟩ x) b (fun k => u < k) v xs := Kd.N_far h (fun k (hk : u < k) => show k ≠ a by omega) x
set_option maxHeartbeats 16000000 in
theorem proto_any (p : Nat) (l : List UInt8) (w : World) (h : Rdr p l w) :
  Calls Try.prog 27 #[.pointer (some ⟨p, 0, none⟩)] w fun e w' => RdE p codP.dec (El k47) l w e w' := by
 have hmf : ∀ (fn : Fn) (first cap : Array Value) (w : World), (Instr.makeFunc fn first cap).run Try.prog w = .ok (.func fn first cap) w := fun _ _ _ _ => rfl
 have HR := Aq.mk h
 have hlt : p < w.heap.size := h.lt
 clear h
 go_enter Try.func27, Try.ntmps27
 go_upto_region 1 with (fail)
 obtain ⟨w1, hw1⟩ : ∃ x, x = (w.alloc (.cells #[.pointer (some ⟨p, 0, none⟩)] 61)).alloc (.cells #[.int .i64 0, .int .i64 0, .slice none 0 0, .slice none 0 0, .slice none 0 0] 47) := ⟨_, rfl⟩
 obtain ⟨vr, hvr⟩ : ∃ x, x = w.heap.size + 1 := ⟨_, rfl⟩
 rw [← hw1, ← hvr]
 have HVR := Aq.mk hvr
 have HA1 := Aq.mk (show Aft p w l w1 from hw1 ▸ (HR.out.aft.alloc _).alloc _)
 have HG1 := Aq.mk (show w1.heap[w.heap.size]? = some (.cells #[.pointer (some ⟨p, 0, none⟩)] 61 (0, 0)) from hw1 ▸ q7q (blk_new _ _) _)
 have HV1 := Aq.mk (show w1.heap[vr]? = some (.cells #[.int .i64 0, .int .i64 0, .slice none 0 0, .slice none 0 0, .slice none 0 0] 47 (0, 0)) from by
  have := blk_new (w.alloc (.cells #[.pointer (some ⟨p, 0, none⟩)] 61)) (.cells #[.int .i64 0, .int .i64 0, .slice none 0 0, .slice none 0 0, .slice none 0 0] 47)
  rw [hw1, hvr]
  simpa using this)
 clear hw1 hvr
 have hg1 : w1.cell? ⟨w.heap.size, 0, none⟩ = some (.pointer (some ⟨p, 0, none⟩)) := (q3q HG1.out 0).trans rfl
 go_wp2_with fail
 refine (natural_rd p l 20 w1 (HA1.out.rdr HR.out.len) (by decide)).mono ?_
 intro e w2 h2
 rcases h2.elim with ⟨n, r, v, hd, rfl, rfl, ha⟩ | ⟨hd, rfl, hb, hk⟩
 ·have HD := Aq.mk hd
  have HL2 := Aq.mk (Nat.le_trans (Cod.len _ hd) HR.out.len)
  have HA2 := Aq.mk (HA1.out.trans ha)
  have HG2 := Aq.mk (show w2.heap[w.heap.size]? = _ from (ha.keep.2 _ (q16q HG1.out) (by omega) (by simp)).trans HG1.out)
  have HV2 := Aq.mk (show w2.heap[vr]? = _ from (ha.keep.2 _ (q16q HV1.out) (by have := HVR.out; omega) (by simp)).trans HV1.out)
  clear hd ha h2 hg1 HG1 HV1 HA1
  go_upto_region 2 with (fail)
  obtain ⟨w3, hw3⟩ : ∃ x, x = w2.alloc (.cells #[.int .i64 (n : Int), .int .i64 0, .slice none 0 0, .slice none 0 0, .slice none 0 0] 47) := ⟨_, rfl⟩
  rw [← hw3]
  have hb3 : Below w2.heap.size w2 w3 := hw3 ▸ q4q (Below.refl _ _) _
  have HP3 := Aq.mk (show PA p w w2.heap.size vr r #[.int .i64 (n : Int), .int .i64 0, .slice none 0 0, .slice none 0 0, .slice none 0 0] w3 from
   ⟨HA2.out.below hb3, HL2.out, hlt, HVR.out, by have := q16q HV2.out; have := HVR.out; omega, q13q HG2.out hb3, q13q HV2.out hb3, hw3 ▸ blk_new _ _⟩)
  clear hw3 hb3 HG2 HV2 HA2
  generalize w2.heap.size = u at HP3 ⊢
  have hg3 := HP3.out.g
  go_wp2_with fail
  refine (natural_rd p r 250 w3 HP3.out.rdr (by decide)).mono ?_
  intro e w4 h4
  rcases h4.elim with ⟨n2, r2, v, hd2, rfl, rfl, ha⟩ | ⟨hd2, rfl, hb, hk⟩
  ·have HD2 := Aq.mk hd2
   have HP4 := Aq.mk (HP3.out.keep ha (Cod.len _ hd2))
   clear hd2 ha hg3 h4
   have cu1 : w4.cell? ⟨u, 1, none⟩ = some (.int .i64 0) := (q3q HP4.out.pv 1).trans rfl
   have fu1 : w4.frozen? ⟨u, 1, none⟩ = false := q1q HP4.out.pv 1
   go_upto_region 3 with (fail)
   obtain ⟨w5, hw5⟩ : ∃ x, x = w4.setCell ⟨u, 1, none⟩ (.int .i64 (n2 : Int)) := ⟨_, rfl⟩
   rw [← hw5]
   have HP5 := Aq.mk (show PA p w u vr r2 #[.int .i64 (n : Int), .int .i64 (n2 : Int), .slice none 0 0, .slice none 0 0, .slice none 0 0] w5 from hw5 ▸ HP4.out.put 1 _ rfl)
   clear hw5 cu1 fu1
   have hg5 := HP5.out.g
   go_wp2_with fail
   refine (list44_any p w.heap.size r2 w5 HP5.out.rdr HP5.out.rd (by omega)).mono ?_
   intro e w6 h6
   rcases h6.elim with ⟨xs2, r3, v2, hd3, rfl, hn2, ha⟩ | ⟨hd3, rfl, hb, hk⟩
   ·obtain ⟨A2, c2, rfl⟩ := Kd.q37q hn2
    have HD3 := Aq.mk hd3
    have HP6 := Aq.mk (HP5.out.keep ha (Cod.len _ hd3))
    have HN6 := Aq.mk (HP5.out.N hn2)
    clear hd3 ha hg5 h6 hn2
    have cu2 : w6.cell? ⟨u, 2, none⟩ = some (.slice none 0 0) := (q3q HP6.out.pv 2).trans rfl
    have fu2 : w6.frozen? ⟨u, 2, none⟩ = false := q1q HP6.out.pv 2
    go_upto_region 4 with (fail)
    obtain ⟨w7, hw7⟩ : ∃ x, x = w6.setCell ⟨u, 2, none⟩ (.slice A2 xs2.length c2) := ⟨_, rfl⟩
    rw [← hw7]
    have HP7 := Aq.mk (show PA p w u vr r3 #[.int .i64 (n : Int), .int .i64 (n2 : Int), .slice A2 xs2.length c2, .slice none 0 0, .slice none 0 0] w7 from hw7 ▸ HP6.out.put 2 _ rfl)
    have HN7 := Aq.mk (show Kd.N k50 50 w7 w.heap.size (fun k => u < k) (.slice A2 xs2.length c2) xs2 from hw7 ▸ N_put HN6.out)
    clear hw7 cu2 fu2
    have hg7 := HP7.out.g
    go_wp2_with fail
    refine (list46_any p r3 w7 HP7.out.rdr).mono ?_
    intro e w8 h8
    rcases h8.elim with ⟨xs3, r4, v3, hd4, rfl, hn3, ha⟩ | ⟨hd4, rfl, hb, hk⟩
    ·obtain ⟨A3, c3, rfl⟩ := Kd.q37q hn3
     have HD4 := Aq.mk hd4
     have hpu : p < u := by have := HP7.out.hu; omega
     have HP8 := Aq.mk (HP7.out.keep ha (Cod.len _ hd4))
     have HN8 := Aq.mk (N_aft HN7.out ha hpu)
     have HM8 := Aq.mk (HP7.out.N hn3)
     clear hd4 ha hg7 h8 hn3
     have cu3 : w8.cell? ⟨u, 3, none⟩ = some (.slice none 0 0) := (q3q HP8.out.pv 3).trans rfl
     have fu3 : w8.frozen? ⟨u, 3, none⟩ = false := q1q HP8.out.pv 3
     go_upto_region 5 with (fail)
     obtain ⟨w9, hw9⟩ : ∃ x, x = w8.setCell ⟨u, 3, none⟩ (.slice A3 xs3.length c3) := ⟨_, rfl⟩
     rw [← hw9]
     have HP9 := Aq.mk (show PA p w u vr r4 #[.int .i64 (n : Int), .int .i64 (n2 : Int), .slice A2 xs2.length c2, .slice A3 xs3.length c3, .slice none 0 0] w9 from hw9 ▸ HP8.out.put 3 _ rfl)
     have HN9 := Aq.mk (show Kd.N k50 50 w9 w.heap.size (fun k => u < k) (.slice A2 xs2.length c2) xs2 from hw9 ▸ N_put HN8.out)
     have HM9 := Aq.mk (show Kd.N k42 42 w9 w.heap.size (fun k => u < k) (.slice A3 xs3.length c3) xs3 from hw9 ▸ N_put HM8.out)
     clear hw9 cu3 fu3
     have hg9 := HP9.out.g
     go_wp2_with fail
     refine (list48_any p w.heap.size r4 w9 HP9.out.rdr HP9.out.rd (by omega)).mono ?_
     intro e wA hA
     rcases hA.elim with ⟨xs4, r5, v4, hd5, rfl, hn4, ha⟩ | ⟨hd5, rfl, hb, hk⟩
     ·obtain ⟨A4, c4, rfl⟩ := Kd.q37q hn4
      have HPA := Aq.mk (HP9.out.keep ha (Cod.len _ hd5))
      have HNA := Aq.mk (N_aft HN9.out ha hpu)
      have HMA := Aq.mk (N_aft HM9.out ha hpu)
      have HOA := Aq.mk (HP9.out.N hn4)
      have HZ := Aq.mk (show codP.dec l = some (⟨n, n2, xs2, xs3, xs4⟩, r5) from Cod.iso_some (Cod.seq_some HD.out (Cod.seq_some HD2.out (Cod.seq_some HD3.out (Cod.seq_some HD4.out hd5)))))
      clear hd5 ha hg9 hA hn4 HD HD2 HD3 HD4
      have cu4 : wA.cell? ⟨u, 4, none⟩ = some (.slice none 0 0) := (q3q HPA.out.pv 4).trans rfl
      have fu4 : wA.frozen? ⟨u, 4, none⟩ = false := q1q HPA.out.pv 4
      go_upto_region 6 with (fail)
      obtain ⟨wB, hwB⟩ : ∃ x, x = wA.setCell ⟨u, 4, none⟩ (.slice A4 xs4.length c4) := ⟨_, rfl⟩
      rw [← hwB]
      have HPB := Aq.mk (show PA p w u vr r5 #[.int .i64 (n : Int), .int .i64 (n2 : Int), .slice A2 xs2.length c2, .slice A3 xs3.length c3, .slice A4 xs4.length c4] wB from hwB ▸ HPA.out.put 4 _ rfl)
      have HNB := Aq.mk (show Kd.N k50 50 wB w.heap.size (fun k => u < k) (.slice A2 xs2.length c2) xs2 from hwB ▸ N_put HNA.out)
      have HMB := Aq.mk (show Kd.N k42 42 wB w.heap.size (fun k => u < k) (.slice A3 xs3.length c3) xs3 from hwB ▸ N_put HMA.out)
      have HOB := Aq.mk (show Kd.N k52 52 wB w.heap.size (fun k => u < k) (.slice A4 xs4.length c4) xs4 from hwB ▸ N_put HOA.out)
      clear hwB cu4 fu4 HPA HNA HMA HOA HN9 HM9 HP9 HN8 HM8 HP8 HN7 HP7 HN6 HP6 HP5 HP4 HP3
      have hu := HPB.out.hu
      have hvu : vr < u := by have := HVR.out; omega
      have c0 : wB.cell? ⟨u, 0, none⟩ = some (.int .i64 n) := (q3q HPB.out.pv 0).trans rfl
      have c1 : wB.cell? ⟨u, 1, none⟩ = some (.int .i64 n2) := (q3q HPB.out.pv 1).trans rfl
      have cc2 : wB.cell? ⟨u, 2, none⟩ = some (.slice A2 xs2.length c2) := (q3q HPB.out.pv 2).trans rfl
      have cc3 : wB.cell? ⟨u, 3, none⟩ = some (.slice A3 xs3.length c3) := (q3q HPB.out.pv 3).trans rfl
      have cc4 : wB.cell? ⟨u, 4, none⟩ = some (.slice A4 xs4.length c4) := (q3q HPB.out.pv 4).trans rfl
      have cv0 : wB.cell? ⟨vr, 0, none⟩ = some (.int .i64 0) := (q3q HPB.out.rv 0).trans rfl
      have cv1 : wB.cell? ⟨vr, 1, none⟩ = some (.int .i64 0) := (q3q HPB.out.rv 1).trans rfl
      have cv2 : wB.cell? ⟨vr, 2, none⟩ = some (.slice none 0 0) := (q3q HPB.out.rv 2).trans rfl
      have cv3 : wB.cell? ⟨vr, 3, none⟩ = some (.slice none 0 0) := (q3q HPB.out.rv 3).trans rfl
      have cv4 : wB.cell? ⟨vr, 4, none⟩ = some (.slice none 0 0) := (q3q HPB.out.rv 4).trans rfl
      have fv0 : wB.frozen? ⟨vr, 0, none⟩ = false := q1q HPB.out.rv 0
      have fv1 : wB.frozen? ⟨vr, 1, none⟩ = false := q1q HPB.out.rv 1
      have fv2 : wB.frozen? ⟨vr, 2, none⟩ = false := q1q HPB.out.rv 2
      have fv3 : wB.frozen? ⟨vr, 3, none⟩ = false := q1q HPB.out.rv 3
      have fv4 : wB.frozen? ⟨vr, 4, none⟩ = false := q1q HPB.out.rv 4
      clear hu
      go_wp2_with fail
      clear c0 c1 cc2 cc3 cc4 cv0 cv1 cv2 cv3 cv4 fv0 fv1 fv2 fv3 fv4
      have hn2 := Kd.q25q (N_putv (i := 4) (x := .slice A4 xs4.length c4) (N_putv (i := 3) (x := .slice A3 xs3.length c3) (N_putv (i := 2) (x := .slice A2 xs2.length c2) (N_putv (i := 1) (x := .int .i64 n2) (N_putv (i := 0) (x := .int .i64 n) HNB.out hvu) hvu) hvu) hvu) hvu)
      have hf2 := Kd.N_F (N_putv (i := 4) (x := .slice A4 xs4.length c4) (N_putv (i := 3) (x := .slice A3 xs3.length c3) (N_putv (i := 2) (x := .slice A2 xs2.length c2) (N_putv (i := 1) (x := .int .i64 n2) (N_putv (i := 0) (x := .int .i64 n) HNB.out hvu) hvu) hvu) hvu) hvu)
      have hn3 := Kd.q25q HMB.out
      have hf3 := Kd.N_F (N_putv (i := 4) (x := .slice A4 xs4.length c4) (N_putv (i := 3) (x := .slice A3 xs3.length c3) (N_putv (i := 2) (x := .slice A2 xs2.length c2) (N_putv (i := 1) (x := .int .i64 n2) (N_putv (i := 0) (x := .int .i64 n) HMB.out hvu) hvu) hvu) hvu) hvu)
      have hn4 := Kd.q25q HOB.out
      have hf4 := Kd.N_F (N_putv (i := 4) (x := .slice A4 xs4.length c4) (N_putv (i := 3) (x := .slice A3 xs3.length c3) (N_putv (i := 2) (x := .slice A2 xs2.length c2) (N_putv (i := 1) (x := .int .i64 n2) (N_putv (i := 0) (x := .int .i64 n) HOB.out hvu) hvu) hvu) hvu) hvu)
      have hw : w.heap.size ≤ vr := by have := HVR.out; omega
      have hwu : ∀ k, u < k → w.heap.size ≤ k := fun k hk => by have := HPB.out.hu; omega
      refine bodyPost_ret (results_cell_row rfl _ _ vr 47 #[.int .i64 (n : Int), .int .i64 (n2 : Int), .slice A2 xs2.length c2, .slice A3 xs3.length c3, .slice A4 xs4.length c4] (0, 0) _ rfl (q14q (q14q (q14q (q14q (q14q HPB.out.rv 0 _ rfl) 1 _ rfl) 2 _ rfl) 3 _ rfl) 4 _ rfl) Try.underlying47 rfl (by kernel_rfl)) rfl ?_
      refine RdE.yes HZ.out ⟨_, rfl, ?_⟩ (Aft.far (Aft.far (Aft.far (Aft.far (Aft.far HPB.out.aft hw hlt _) hw hlt _) hw hlt _) hw hlt _) hw hlt _)
      exact Kd.FK_mono (k47_mkF _ _ (⟨n, n2, xs2, xs3, xs4⟩ : S47) hn2.2.1 hf2 hn3.2.1 hf3 hn4.2.1 hf4) hwu
     ·exact ⟨rfl, RdE.no (Cod.iso_none (Cod.seq_none2 HD.out (Cod.seq_none2 HD2.out (Cod.seq_none2 HD3.out (Cod.seq_none2 HD4.out hd5))))) (HP9.out.aft.bel.trans hb) (HP9.out.aft.keep.trans hk (.inl rfl))⟩
    ·exact ⟨rfl, RdE.no (Cod.iso_none (Cod.seq_none2 HD.out (Cod.seq_none2 HD2.out (Cod.seq_none2 HD3.out (Cod.seq_none1 hd4))))) (HP7.out.aft.bel.trans hb) (HP7.out.aft.keep.trans hk (.inl rfl))⟩
   ·exact ⟨rfl, RdE.no (Cod.iso_none (Cod.seq_none2 HD.out (Cod.seq_none2 HD2.out (Cod.seq_none1 hd3)))) (HP5.out.aft.bel.trans hb) (HP5.out.aft.keep.trans hk (.inl rfl))⟩
  ·exact ⟨rfl, RdE.no (Cod.iso_none (Cod.seq_none2 HD.out (Cod.seq_none1 hd2))) (HP3.out.aft.bel.trans hb) (HP3.out.aft.keep.trans hk (.inl rfl))⟩
 ·exact ⟨rfl, RdE.no (Cod.iso_none (Cod.seq_none1 hd)) (HA1.out.bel.trans hb) (HA1.out.keep.trans hk (.inl rfl))⟩
set_option maxHeartbeats 1000000 in
theorem list26_any (p : Nat) (l : List UInt8) (w : World) (h : Rdr p l w) :
  Calls Try.prog 26 #[.pointer (some ⟨p, 0, none⟩), .int .i64 256, .func (.func 27) #[.pointer (some ⟨p, 0, none⟩)] #[]] w fun e w' => RdE p (Cod.list 256 (by decide) codP).dec (Ls k47 47) l w e w' := by
 have HR := Aq.mk h
 have hlt : p < w.heap.size := h.lt
 clear h
 go_enter Try.func26, Try.ntmps26
 go_wp2_with fail
 refine (natural_rd p l 256 w HR.out (by decide)).mono ?_
 intro e w1 h1
 rcases h1.elim with ⟨n, r, v, hd, rfl, rfl, ha⟩ | ⟨hd, rfl, hb, hk⟩
 ·have HD := Aq.mk hd
  have HA := Aq.mk ha
  have hn : n ≤ 256 := Cod.nat_le hd
  have HL := Aq.mk (show r.length ≤ 10000000 from Nat.le_trans (Cod.len _ hd) HR.out.len)
  clear hd ha h1
  go_wp2_with fail
  go_loopw [7, 11] (fun v7 v11 wr => ∃ (i : Nat) (xs : List S47) (ri : List UInt8), v11 = .int .i64 (i : Int) ∧ i ≤ n ∧ xs.length = i ∧ Aq (Kd.N k47 47 wr w.heap.size (fun k => w.heap.size ≤ k) v7 xs) ∧ Aq (Aft p w ri wr) ∧ Aq (Cod.RepAt codP n r i xs ri) ∧ Aq (ri.length ≤ 10000000)) (fun _ v11 _ => n - (intOf v11).toNat)
  case atStart => exact ⟨0, [], r, rfl, Nat.zero_le _, rfl, ⟨Kd.N_nil _ _ _ _ _⟩, HA, ⟨Cod.RepAt.zero _ _ _⟩, HL⟩
  case round =>
   obtain ⟨i, xs, ri, rfl, hi, hxs, HN, HAr, HP, HLr⟩ := hrel
   by_cases hin : (i : Int) < (n : Int)
   case neg =>
    have hz : (Cod.list 256 (by decide) codP).dec l = some (xs, ri) := by rw [Cod.list_some HD.out]; exact HP.out.done (by omega)
    go_wp2_with fail
    go_ret
    exact RdE.yes hz HN.out HAr.out
   go_wp2_with fail
   refine (proto_any p ri wr (HAr.out.rdr HLr.out)).mono ?_
   intro e w2 h2
   rcases h2.elim with ⟨x, r2, v, hd2, rfl, ⟨cs, rfl, hfk⟩, ha⟩ | ⟨hd2, rfl, hb, hk⟩
   ·obtain ⟨A2, c2, A3, c3, A4, c4, rfl, _⟩ := k47_openF hfk
    have HF := Aq.mk hfk
    have HA2 := Aq.mk (HAr.out.trans ha)
    have HN2 := Aq.mk (Kd.N_keep HN.out ha.keep (fun k hk => by omega))
    have HP2 := Aq.mk (HP.out.step (by omega) hd2)
    have HL2 := Aq.mk (show r2.length ≤ 10000000 from Nat.le_trans (Cod.len _ hd2) HLr.out)
    have HW := Aq.mk (show w.heap.size ≤ wr.heap.size from HAr.out.keep.1)
    have HW2 := Aq.mk (show w.heap.size ≤ w2.heap.size from HA2.out.keep.1)
    have HO := Aq.mk (Kd.N_lt HN.out)
    clear hfk ha hd2 h2
    go_wp2_with (at_builtin; (refine Kd.N_append k47 (w0 := w2) w.heap.size rfl (.tmp 13) (.tmp 16) 22 47 (.agg #[(.int .i64 0), (.int .i64 0), (.slice none 0 0), (.slice none 0 0), (.slice none 0 0)]) 88 rfl Try.underlying22 info47 rfl (by decide) (by decide) u7 xs x [.int .i64 x.f0, .int .i64 x.f1, .slice A2 x.f2.length c2, .slice A3 x.f3.length c3, .slice A4 x.f4.length c4] (fun k => w.heap.size ≤ k) (fun k => wr.heap.size ≤ k) ?aS ?aX HF.out ?aK (fun _ hk => Nat.le_trans HW2.out hk) HN2.out (Below.refl _ _) HW2.out ?aL ?_; (case aS => simp [Act.eval]); (case aX => simp [Act.eval]); (case aK => exact fun k hk => ⟨Nat.le_trans HW.out hk, fun e => by have := HO.out k e.symm; omega⟩); (case aL => rw [hxs]; omega); intro v1 w3 HN3 hb3 hg3 hat3; replace HN3 := Aq.mk HN3; replace hb3 := Aq.mk hb3; clear hg3 hat3))
    go_roundw
    case rel => exact ⟨i + 1, xs ++ [x], r2, by simp, by omega, by simp [hxs], HN3, ⟨HA2.out.belowB hlt hb3.out⟩, HP2, HL2⟩
    case measure => simp [intOf]; omega
   ·exact ⟨rfl, RdE.no (by rw [Cod.list_some HD.out]; exact HP.out.fail (by omega) hd2) (HAr.out.bel.trans hb) (HAr.out.keep.trans hk (.inl rfl))⟩
 ·exact ⟨rfl, RdE.no (Cod.list_none hd) hb hk⟩
end Go.Proofs.Ytkkgbbfojmnopaa.G
end
