import Derived.WalkKit
import Derived.WalkLawsBesides
import Derived.Deep.RegionLaw
import Derived.Deep.Cut
import Derived.WalkSpells
import Derived.Recover
import Derived.Laws.Bits64b
import Derived.Test.YtkkgbbfojmnopaaPKnE4
set_option linter.unusedVariables false
set_option linter.unusedSimpArgs false
section
namespace Go.Proofs.Ytkkgbbfojmnopaa.G
open Go.RowKit Go.Proofs.YtkkgbbfojmnopaaW.PrintWords Go.Proofs.YtkkgbbfojmnopaaW.PrintLast Go.Proofs.YtkkgbbfojmnopaaW.PrintMore
set_option linter.unusedVariables false
set_option linter.unusedSimpArgs false
namespace Cod
theorem len {α : Type} (c : Cod α) {l r : List UInt8} {x : α} (h : c.dec l = some (x, r)) : r.length ≤ l.length := by
  have := (c.un l x r h).2
  rw [this, List.length_append]
  omega
theorem iso_none {α β : Type} {c : Cod α} {f : α → β} {g : β → α} {hgf : ∀ a, c.ok a → g (f a) = a} {l : List UInt8} (h : c.dec l = none) : (c.iso f g hgf).dec l = none := by
  show (match c.dec l with | some (x, r) => some (f x, r) | none => none) = none
  rw [h]
theorem iso_some {α β : Type} {c : Cod α} {f : α → β} {g : β → α} {hgf : ∀ a, c.ok a → g (f a) = a} {l r : List UInt8} {x : α} (h : c.dec l = some (x, r)) : (c.iso f g hgf).dec l = some (f x, r) := by
  show (match c.dec l with | some (x, r) => some (f x, r) | none => none) = _
  rw [h]
theorem seq_none1 {α β : Type} {c : Cod α} {d : Cod β} {l : List UInt8} (h : c.dec l = none) : (c.seq d).dec l = none := by
  show (match c.dec l with | some (x, r) => (match d.dec r with | some (y, s) => some ((x, y), s) | none => none) | none => none) = none
  rw [h]
theorem seq_none2 {α β : Type} {c : Cod α} {d : Cod β} {l r : List UInt8} {x : α} (h : c.dec l = some (x, r)) (h2 : d.dec r = none) : (c.seq d).dec l = none := by
  show (match c.dec l with | some (x, r) => (match d.dec r with | some (y, s) => some ((x, y), s) | none => none) | none => none) = none
  rw [h]
  simp only [h2]
theorem seq_some {α β : Type} {c : Cod α} {d : Cod β} {l r s : List UInt8} {x : α} {y : β} (h : c.dec l = some (x, r)) (h2 : d.dec r = some (y, s)) : (c.seq d).dec l = some ((x, y), s) := by
  show (match c.dec l with | some (x, r) => (match d.dec r with | some (y, s) => some ((x, y), s) | none => none) | none => none) = _
  rw [h]
  simp only [h2]
theorem nat_le {m : Nat} {l r : List UInt8} {n : Nat} (h : (nat m).dec l = some (n, r)) : n ≤ m := of_decide_eq_true ((nat m).un l n r h).1.2
end Cod
def codU : Cod S50 := (Cod.seq (Cod.nat 1) (Cod.nat 250)).iso (fun x => ⟨decide (x.1 = 1), x.2⟩) (fun u => (if u.f0 = true then 1 else 0, u.f1.toNat)) (fun a h => by
  obtain ⟨a, b⟩ := a
  have h1 : a ≤ 1 := of_decide_eq_true h.1.2
  show (if decide (a = 1) = true then 1 else 0, ((b : Int)).toNat) = (a, b)
  rw [Int.toNat_natCast]
  by_cases e : a = 1
  · rw [e]; rfl
  · rw [if_neg (by simpa using e), show a = 0 by omega])
def codI : Cod S52 := (Cod.seq (Cod.nat 36) (Cod.seq (Cod.nat 250) (Cod.nat 16384))).iso (fun x => ⟨x.1, x.2.1, x.2.2⟩) (fun i => (i.f0.toNat, i.f1.toNat, i.f2.toNat)) (fun a _ => rfl)
def El {α : Type} (d : Kd α) (w w' : World) (x : α) (v : Value) : Prop := ∃ cs : List Value, v = .agg cs.toArray ∧ Kd.FK d w' (fun k => w.heap.size ≤ k) x cs
set_option maxHeartbeats 1000000 in
theorem up_any (p g : Nat) (l : List UInt8) (w : World) (h : Rdr p l w) (hg : w.heap[g]? = some (.cells #[.pointer (some ⟨p, 0, none⟩)] 61 (0, 0))) (hne : g ≠ p) :
    Calls Try.prog 45 #[.pointer (some ⟨g, 0, none⟩)] w fun e w' => RdE p codU.dec (El k50) l w e w' := by
  have HR := Aside0.mk h
  have hlt : p < w.heap.size := h.lt
  have HG := Aside0.mk hg
  have hgl : g < w.heap.size := blk_lt hg
  clear h hg
  go_enter Try.func45, Try.ntmps45
  go_upto_region 1 with (fail)
  obtain ⟨w1, hw1⟩ : ∃ x, x = w.alloc (.cells #[.bool false, .int .i64 0] 50) := ⟨_, rfl⟩
  rw [← hw1]
  have HA1 := Aside0.mk (show Aft p w l w1 from hw1 ▸ HR.out.aft.alloc _)
  have HV1 := Aside0.mk (show w1.heap[w.heap.size]? = some (.cells #[.bool false, .int .i64 0] 50 (0, 0)) from hw1 ▸ blk_new _ _)
  clear hw1
  have HG1 := Aside0.mk (show w1.heap[g]? = _ from (HA1.out.keep.2 g hgl hne (by simp)).trans HG.out)
  have g1 : w1.cell? ⟨g, 0, none⟩ = some (.pointer (some ⟨p, 0, none⟩)) := (blk_cell HG1.out 0).trans rfl
  go_wp2_with fail
  refine (natural_rd p l 1 w1 (HA1.out.rdr HR.out.len) (by decide)).mono ?_
  intro e w2 h2
  rcases h2.elim with ⟨n, r, v, hd, rfl, rfl, ha⟩ | ⟨hd, rfl, hb, hk⟩
  · have HD := Aside0.mk hd
    have HA2 := Aside0.mk (HA1.out.trans ha)
    have hlg : g < w1.heap.size := blk_lt HG1.out
    have HG2 := Aside0.mk (show w2.heap[g]? = _ from (ha.keep.2 g hlg hne (by simp)).trans HG1.out)
    have hlv : w.heap.size < w1.heap.size := blk_lt HV1.out
    have HV2 := Aside0.mk (show w2.heap[w.heap.size]? = _ from (ha.keep.2 _ hlv (by omega) (by simp)).trans HV1.out)
    clear hd ha g1 h2
    have g2 : w2.cell? ⟨g, 0, none⟩ = some (.pointer (some ⟨p, 0, none⟩)) := (blk_cell HG2.out 0).trans rfl
    go_wp2_with fail
    refine (natural_rd p r 250 w2 (HA2.out.rdr (Nat.le_trans (Cod.len _ HD.out) HR.out.len)) (by decide)).mono ?_
    intro e w3 h3
    rcases h3.elim with ⟨n2, r2, v, hd2, rfl, rfl, ha⟩ | ⟨hd2, rfl, hb, hk⟩
    · have HD2 := Aside0.mk hd2
      have HA3 := Aside0.mk (HA2.out.trans ha)
      have HV3 := Aside0.mk (show w3.heap[w.heap.size]? = _ from (ha.keep.2 _ (blk_lt HV2.out) (by omega) (by simp)).trans HV2.out)
      clear hd2 ha g2 h3
      have cv0 : w3.cell? ⟨w.heap.size, 0, none⟩ = some (.bool false) := (blk_cell HV3.out 0).trans rfl
      have cv1 : w3.cell? ⟨w.heap.size, 1, none⟩ = some (.int .i64 0) := (blk_cell HV3.out 1).trans rfl
      have fv0 : w3.frozen? ⟨w.heap.size, 0, none⟩ = false := blk_frozen HV3.out 0
      have fv1 : w3.frozen? ⟨w.heap.size, 1, none⟩ = false := blk_frozen HV3.out 1
      go_wp2_with fail
      refine bodyPost_ret (results_cell_row rfl _ _ w.heap.size 50 #[.bool ((n : Int) == 1), .int .i64 (n2 : Int)] (0, 0) _ rfl (blk_put (blk_put HV3.out 0 _ rfl) 1 _ rfl) Try.underlying50 rfl (by kernel_rfl)) rfl ?_
      refine RdE.yes (Cod.iso_some (Cod.seq_some HD.out HD2.out)) ⟨_, rfl, ?_⟩ (Aft.far (Aft.far HA3.out (Nat.le_refl _) hlt _) (Nat.le_refl _) hlt _)
      have e : ((n : Int) == 1) = decide (n = 1) := by rw [Bool.eq_iff_iff]; simp; omega
      rw [e]
      exact k50_mkF _ _ (⟨decide (n = 1), n2⟩ : S50)
    · exact ⟨rfl, RdE.no (Cod.iso_none (Cod.seq_none2 HD.out hd2)) (HA2.out.bel.trans hb) (HA2.out.keep.trans hk (.inl rfl))⟩
  · exact ⟨rfl, RdE.no (Cod.iso_none (Cod.seq_none1 hd)) (HA1.out.bel.trans hb) (HA1.out.keep.trans hk (.inl rfl))⟩
end Go.Proofs.Ytkkgbbfojmnopaa.G
end
