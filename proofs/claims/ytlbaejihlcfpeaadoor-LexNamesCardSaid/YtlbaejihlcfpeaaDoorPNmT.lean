import Derived.LaidMore
import Derived.LaidHandle
import Derived.Stop.Joined
import Derived.Lib.IfaceEq
import Derived.Lib.IndexMore
import Derived.Shelf.Abstract
import Derived.LaidEql
import Derived.Stop.Asserts
import Derived.RowKitTokens
import Derived.Lib.LaidTab
import Derived.Lib.AppendIntMem
import Derived.Stop.LaidErr
import Derived.WalkKit
import Derived.Deep.RegionLaw
import Derived.Deep.Cut
import Derived.WalkSpells
import Derived.Maps.OwnOps
import Derived.Maps.OwnSet
import Derived.Maps.Views
import Derived.Maps.RangeWalk
import Derived.Maps.Own
import Derived.Test.YtlbaejihlcfpeaaDoorPNmA5
import Derived.Test.YtlbaejihlcfpeaaDoorPNmIs
import Derived.Test.YtlbaejihlcfpeaaDoorPNmAs
import Derived.Lib.Hide
set_option linter.unusedVariables false
set_option linter.unusedSimpArgs false
section
namespace Go.Proofs.YtlbaejihlcfpeaaDoor.G
open Go.Proofs.YtlbaejihlcfpeaaDoor.G Go.Proofs.YtlbaejihlcfpeaaDoor.Z
open Go.Shelf Go.Extern.Stop Go.Stop Go.Extern Go.RowKit Go.Proofs.YtlbaejihlcfpeaaDoorW.PrintWords Go.Proofs.YtlbaejihlcfpeaaDoorW.PrintLast Go.Proofs.YtlbaejihlcfpeaaDoorW.PrintMore
set_option linter.unusedVariables false
set_option linter.unusedSimpArgs false
theorem as53 (p gb : Nat) (w : World) (hL : Laid w) (ht : w.heap[gb]? = some (.cells #[.pointer none] 37 (0, 0))) :
    Calls Tryd.prog 15 #[.iface 37 (.pointer (some ⟨p, 0, none⟩)), .iface 44 (.pointer (some ⟨gb, 0, none⟩))] w fun e w' => e = .returned (.bool true) ∧ w'.heap[gb]? = some (.cells #[.pointer (some ⟨p, 0, none⟩)] 37 (0, 0)) ∧ (∀ k o, k ≠ gb → w.heap[k]? = some o → w'.heap[k]? = some o) ∧ (∀ w0 : World, w0.heap.size ≤ gb → Below w0.heap.size w0 w → Below w0.heap.size w0 w') := by
  refine (as_hit53 ⟨p, 0, none⟩ ⟨gb, 0, none⟩ (.pointer none) w (Laid.cell0 hL) ((blk_cell ht 0).trans rfl) (blk_frozen ht 0)).mono ?_
  rintro e w' ⟨rfl, rfl⟩
  have hb := fun o1 o2 o3 o4 => below_alloc (below_alloc (below_alloc (below_alloc (Below.refl w.heap.size w) o1) o2) o3) o4
  refine ⟨rfl, blk_put (blk_below ht (hb _ _ _ _)) 0 _ rfl, fun k o hk ho => ?_, fun w0 h0 hw => below_set (below_step hw (hb _ _ _ _)) h0⟩
  exact (Below.heap_setCell _ _ _ k hk).trans (((hb _ _ _ _).block k (blk_lt ho)).trans ho)
theorem eqA32 (d : Nat) (w : World) (x0 y0 : Int) (x1 y1 : Int) :
    (Op.equalIn (d + 2) 32 (.agg #[.int .i64 x0, .int .i64 x1]) (.agg #[.int .i64 y0, .int .i64 y1])).run Tryd.prog w = .ok (x0 == y0 && (x1 == y1)) w := by
  refine eqA_of Tryd.underlying32 (by kernel_rfl) ?_
  refine eqf_cons (by rfl) (by go_simp; rfl) (by go_simp; rfl) (by go_simp) ?_
  exact eqf_last (by rfl) (by go_simp; rfl) (by go_simp; rfl) (by go_simp)
set_option maxHeartbeats 4000000 in
set_option maxRecDepth 100000 in
theorem told_true (ev : Value) (c a a2 : Int) (w0 w : World) (hL : Laid w) (hF : FaultV w0 w ev c a) (h2 : c ≠ 0 → a = a2) :
    Calls Tryd.prog 9 #[ev, .agg #[.int .i64 c, .int .i64 a2]] w fun e w' => e = .returned (.bool true) ∧ Below w.heap.size w w' := by
  have HL := Aside0.mk hL
  clear hL
  rcases hF with ⟨hc, rfl⟩ | ⟨hc, p, rfl, _, hp⟩
  · subst hc
    clear h2
    go_enter Tryd.func9, Tryd.ntmps9
    go_wp2
    go_ret
    exact ⟨rfl, by repeat (first | exact Below.refl _ _ | apply below_alloc)⟩
  · obtain rfl := h2 hc
    have HP := Aside0.mk hp
    have hzb : (c == 0) = false := beq_eq_false_iff_ne.mpr hc
    clear hp h2 hc
    go_enter Tryd.func9, Tryd.ntmps9
    go_upto_region 3 with (fail)
    obtain ⟨w1, hw1⟩ : ∃ x, x = w.alloc (.cells #[.int .i64 c, .int .i64 a] 32) := ⟨_, rfl⟩
    rw [← hw1]
    obtain ⟨b3, hb3⟩ : ∃ x, x = w.heap.size := ⟨_, rfl⟩
    rw [← hb3]
    have HB1 := Aside0.mk (show Below w.heap.size w w1 from by rw [hw1]; exact below_alloc (Below.refl _ _) _)
    have HX1 := Aside0.mk (show w1.heap[b3]? = some (.cells #[.int .i64 c, .int .i64 a] 32 (0, 0)) from by rw [hw1, hb3]; exact blk_new _ _)
    have HP1 := Aside0.mk (show w1.heap[p]? = some (.cells #[.int .i64 c, .int .i64 a] 32 (0, 0)) from by rw [hw1]; exact blk_alloc HP.out _)
    clear hw1 hb3
    go_upto_region 4 with (fail)
    obtain ⟨w2, hw2⟩ : ∃ x, x = w1.alloc (.cells #[.pointer none] 37) := ⟨_, rfl⟩
    rw [← hw2]
    obtain ⟨gb, hgb⟩ : ∃ x, x = w1.heap.size := ⟨_, rfl⟩
    rw [← hgb]
    have HB2 := Aside0.mk (show Below w.heap.size w w2 from by rw [hw2]; exact below_alloc HB1.out _)
    have HX2 := Aside0.mk (show w2.heap[b3]? = some (.cells #[.int .i64 c, .int .i64 a] 32 (0, 0)) from by rw [hw2]; exact blk_alloc HX1.out _)
    have HP2 := Aside0.mk (show w2.heap[p]? = some (.cells #[.int .i64 c, .int .i64 a] 32 (0, 0)) from by rw [hw2]; exact blk_alloc HP1.out _)
    have HG2 := Aside0.mk (show w2.heap[gb]? = some (.cells #[.pointer none] 37 (0, 0)) from by rw [hw2, hgb]; exact blk_new _ _)
    have HGE := Aside0.mk (show w.heap.size ≤ gb from by rw [hgb]; exact HB1.out.size)
    have HN1 := Aside0.mk (show b3 ≠ gb from by rw [hgb]; exact Nat.ne_of_lt (blk_lt HX1.out))
    have HN2 := Aside0.mk (show p ≠ gb from by rw [hgb]; exact Nat.ne_of_lt (blk_lt HP1.out))
    clear hw2 hgb HB1 HX1 HP1 HP
    have hEq : ∀ (d : Nat) (w : World), (Op.equalIn (d + 2) 32 (.agg #[.int .i64 c, .int .i64 a]) (.agg #[.int .i64 c, .int .i64 a])).run Tryd.prog w = .ok true w := fun d w => by rw [eqA32, beq_self_eq_true, beq_self_eq_true]; rfl
    go_region_with (first
      | (go_at_call 15; refine (as53 p gb w2.drew (Laid.below (below_drew HB2.out) HL.out) (blk_drew HG2.out)).mono ?_; rintro e w3 ⟨rfl, h1, h2, h3⟩; have HG3 := Aside0.mk h1; have HX3 := Aside0.mk (h2 _ _ HN1.out (blk_drew HX2.out)); have HP3 := Aside0.mk (h2 _ _ HN2.out (blk_drew HP2.out)); have HB3 := Aside0.mk (h3 w HGE.out (below_drew HB2.out)); clear h1 h2 h3; have cg : w3.cell? ⟨gb, 0, none⟩ = some (.pointer (some ⟨p, 0, none⟩)) := (blk_cell HG3.out 0).trans rfl; have cx0 : w3.cell? ⟨b3, 0, none⟩ = some (.int .i64 c) := (blk_cell HX3.out 0).trans rfl; have cx1 : w3.cell? ⟨b3, 1, none⟩ = some (.int .i64 a) := (blk_cell HX3.out 1).trans rfl; have cp0 : w3.cell? ⟨p, 0, none⟩ = some (.int .i64 c) := (blk_cell HP3.out 0).trans rfl; have cp1 : w3.cell? ⟨p, 1, none⟩ = some (.int .i64 a) := (blk_cell HP3.out 1).trans rfl)
      | (go_at_call 16; refine (is_fault p c w3 cp0).mono ?_; rintro e w4 ⟨rfl, rfl⟩))
    all_goals (try go_wp2)
    all_goals (go_ret; exact ⟨rfl, HB3.out⟩)
end Go.Proofs.YtlbaejihlcfpeaaDoor.G
end
