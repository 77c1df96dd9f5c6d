import Derived.WalkKit
import Derived.WalkLawsBesides
import Derived.Deep.RegionLaw
import Derived.Deep.Cut
import Derived.WalkSpells
import Derived.Recover
import Derived.Laws.Bits64b
import Derived.Test.YtkkgbbfojmnopaaPKnE5
set_option linter.unusedVariables false
set_option linter.unusedSimpArgs false
section
namespace Go.Proofs.Ytkkgbbfojmnopaa.G
open Go.RowKit Go.Proofs.YtkkgbbfojmnopaaW.PrintWords Go.Proofs.YtkkgbbfojmnopaaW.PrintLast Go.Proofs.YtkkgbbfojmnopaaW.PrintMore
set_option linter.unusedVariables false
set_option linter.unusedSimpArgs false
set_option maxHeartbeats 1000000 in
theorem instr_any (p g : Nat) (l : List UInt8) (w : World) (h : Rdr p l w) (hg : w.heap[g]? = some (.cells #[.pointer (some ⟨p, 0, none⟩)] 61 (0, 0))) (hne : g ≠ p) :
    Calls Try.prog 49 #[.pointer (some ⟨g, 0, none⟩)] w fun e w' => RdE p codI.dec (El k52) l w e w' := by
  have HR := Aside0.mk h
  have hlt : p < w.heap.size := h.lt
  have HG := Aside0.mk hg
  have hgl : g < w.heap.size := blk_lt hg
  clear h hg
  go_enter Try.func49, Try.ntmps49
  go_upto_region 1 with (fail)
  obtain ⟨w1, hw1⟩ : ∃ x, x = w.alloc (.cells #[.int .i64 0, .int .i64 0, .int .i64 0] 52) := ⟨_, rfl⟩
  rw [← hw1]
  have HA1 := Aside0.mk (show Aft p w l w1 from hw1 ▸ HR.out.aft.alloc _)
  have HV1 := Aside0.mk (show w1.heap[w.heap.size]? = some (.cells #[.int .i64 0, .int .i64 0, .int .i64 0] 52 (0, 0)) from hw1 ▸ blk_new _ _)
  clear hw1
  have HG1 := Aside0.mk (show w1.heap[g]? = _ from (HA1.out.keep.2 g hgl hne (by simp)).trans HG.out)
  have g1 : w1.cell? ⟨g, 0, none⟩ = some (.pointer (some ⟨p, 0, none⟩)) := (blk_cell HG1.out 0).trans rfl
  go_wp2_with fail
  refine (natural_rd p l 36 w1 (HA1.out.rdr HR.out.len) (by decide)).mono ?_
  intro e w2 h2
  rcases h2.elim with ⟨n, r, v, hd, rfl, rfl, ha⟩ | ⟨hd, rfl, hb, hk⟩
  · have HD := Aside0.mk hd
    have HA2 := Aside0.mk (HA1.out.trans ha)
    have hlg : g < w1.heap.size := blk_lt HG1.out
    have HG2 := Aside0.mk (show w2.heap[g]? = _ from (ha.keep.2 g hlg hne (by simp)).trans HG1.out)
    have hlv : w.heap.size < w1.heap.size := blk_lt HV1.out
    have HV2 := Aside0.mk (show w2.heap[w.heap.size]? = _ from (ha.keep.2 _ hlv (by omega) (by simp)).trans HV1.out)
    clear hd ha g1 h2
    go_upto_region 2 with (fail)
    obtain ⟨w3, hw3⟩ : ∃ x, x = w2.alloc (.cells #[.int .i64 (n : Int), .int .i64 0, .int .i64 0] 52) := ⟨_, rfl⟩
    rw [← hw3]
    have HU3 := Aside0.mk (show w3.heap[w2.heap.size]? = some (.cells #[.int .i64 (n : Int), .int .i64 0, .int .i64 0] 52 (0, 0)) from hw3 ▸ blk_new _ _)
    have hb3 : Below w2.heap.size w2 w3 := hw3 ▸ below_alloc (Below.refl _ _) _
    clear hw3
    have HA3 := Aside0.mk (HA2.out.below hb3)
    have HG3 := Aside0.mk (blk_below HG2.out hb3)
    have HV3 := Aside0.mk (blk_below HV2.out hb3)
    have hvu : w.heap.size < w2.heap.size := blk_lt HV2.out
    generalize w2.heap.size = u at HU3 hvu ⊢
    clear hb3
    have hg3 : w3.cell? ⟨g, 0, none⟩ = some (.pointer (some ⟨p, 0, none⟩)) := (blk_cell HG3.out 0).trans rfl
    go_wp2_with fail
    refine (natural_rd p r 250 w3 (HA3.out.rdr (Nat.le_trans (Cod.len _ HD.out) HR.out.len)) (by decide)).mono ?_
    intro e w4 h4
    rcases h4.elim with ⟨n2, r2, v, hd2, rfl, rfl, ha⟩ | ⟨hd2, rfl, hb, hk⟩
    · have HD2 := Aside0.mk hd2
      have HA4 := Aside0.mk (HA3.out.trans ha)
      have HV4 := Aside0.mk (show w4.heap[w.heap.size]? = _ from (ha.keep.2 _ (blk_lt HV3.out) (by omega) (by simp)).trans HV3.out)
      have HU4 := Aside0.mk (show w4.heap[u]? = _ from (ha.keep.2 _ (blk_lt HU3.out) (by omega) (by simp)).trans HU3.out)
      have HG4 := Aside0.mk (show w4.heap[g]? = _ from (ha.keep.2 g (blk_lt HG3.out) hne (by simp)).trans HG3.out)
      clear hd2 ha hg3 h4
      have cu1 : w4.cell? ⟨u, 1, none⟩ = some (.int .i64 0) := (blk_cell HU4.out 1).trans rfl
      have fu1 : w4.frozen? ⟨u, 1, none⟩ = false := blk_frozen HU4.out 1
      go_upto_region 3 with (fail)
      obtain ⟨w5, hw5⟩ : ∃ x, x = w4.setCell ⟨u, 1, none⟩ (.int .i64 (n2 : Int)) := ⟨_, rfl⟩
      rw [← hw5]
      have HA5 := Aside0.mk (show Aft p w r2 w5 from hw5 ▸ HA4.out.far (Nat.le_of_lt hvu) hlt _)
      have HU5 := Aside0.mk (show w5.heap[u]? = some (.cells #[.int .i64 (n : Int), .int .i64 (n2 : Int), .int .i64 0] 52 (0, 0)) from hw5 ▸ blk_put HU4.out 1 _ rfl)
      have HV5 := Aside0.mk (show w5.heap[w.heap.size]? = _ from hw5 ▸ blk_far HV4.out (by show w.heap.size ≠ u; omega) _)
      have HG5 := Aside0.mk (show w5.heap[g]? = _ from hw5 ▸ blk_far HG4.out (by show g ≠ u; omega) _)
      clear hw5 cu1 fu1
      have hg5 : w5.cell? ⟨g, 0, none⟩ = some (.pointer (some ⟨p, 0, none⟩)) := (blk_cell HG5.out 0).trans rfl
      go_wp2_with fail
      refine (natural_rd p r2 16384 w5 (HA5.out.rdr (Nat.le_trans (Cod.len _ HD2.out) (Nat.le_trans (Cod.len _ HD.out) HR.out.len))) (by decide)).mono ?_
      intro e w6 h6
      rcases h6.elim with ⟨n3, r3, v, hd3, rfl, rfl, ha⟩ | ⟨hd3, rfl, hb, hk⟩
      · have HD3 := Aside0.mk hd3
        have HA6 := Aside0.mk (HA5.out.trans ha)
        have HV6 := Aside0.mk (show w6.heap[w.heap.size]? = _ from (ha.keep.2 _ (blk_lt HV5.out) (by omega) (by simp)).trans HV5.out)
        have HU6 := Aside0.mk (show w6.heap[u]? = _ from (ha.keep.2 _ (blk_lt HU5.out) (by omega) (by simp)).trans HU5.out)
        clear hd3 ha hg5 h6
        have cu2 : w6.cell? ⟨u, 2, none⟩ = some (.int .i64 0) := (blk_cell HU6.out 2).trans rfl
        have fu2 : w6.frozen? ⟨u, 2, none⟩ = false := blk_frozen HU6.out 2
        go_upto_region 4 with (fail)
        obtain ⟨w7, hw7⟩ : ∃ x, x = w6.setCell ⟨u, 2, none⟩ (.int .i64 (n3 : Int)) := ⟨_, rfl⟩
        rw [← hw7]
        have HA7 := Aside0.mk (show Aft p w r3 w7 from hw7 ▸ HA6.out.far (Nat.le_of_lt hvu) hlt _)
        have HU7 := Aside0.mk (show w7.heap[u]? = some (.cells #[.int .i64 (n : Int), .int .i64 (n2 : Int), .int .i64 (n3 : Int)] 52 (0, 0)) from hw7 ▸ blk_put HU6.out 2 _ rfl)
        have HV7 := Aside0.mk (show w7.heap[w.heap.size]? = _ from hw7 ▸ blk_far HV6.out (by show w.heap.size ≠ u; omega) _)
        clear hw7 cu2 fu2
        have c0 : w7.cell? ⟨u, 0, none⟩ = some (.int .i64 n) := (blk_cell HU7.out 0).trans rfl
        have c1 : w7.cell? ⟨u, 1, none⟩ = some (.int .i64 n2) := (blk_cell HU7.out 1).trans rfl
        have c2 : w7.cell? ⟨u, 2, none⟩ = some (.int .i64 n3) := (blk_cell HU7.out 2).trans rfl
        have cv0 : w7.cell? ⟨w.heap.size, 0, none⟩ = some (.int .i64 0) := (blk_cell HV7.out 0).trans rfl
        have cv1 : w7.cell? ⟨w.heap.size, 1, none⟩ = some (.int .i64 0) := (blk_cell HV7.out 1).trans rfl
        have cv2 : w7.cell? ⟨w.heap.size, 2, none⟩ = some (.int .i64 0) := (blk_cell HV7.out 2).trans rfl
        have fv0 : w7.frozen? ⟨w.heap.size, 0, none⟩ = false := blk_frozen HV7.out 0
        have fv1 : w7.frozen? ⟨w.heap.size, 1, none⟩ = false := blk_frozen HV7.out 1
        have fv2 : w7.frozen? ⟨w.heap.size, 2, none⟩ = false := blk_frozen HV7.out 2
        go_wp2_with fail
        refine bodyPost_ret (results_cell_row rfl _ _ w.heap.size 52 #[.int .i64 (n : Int), .int .i64 (n2 : Int), .int .i64 (n3 : Int)] (0, 0) _ rfl (blk_put (blk_put (blk_put HV7.out 0 _ rfl) 1 _ rfl) 2 _ rfl) Try.underlying52 rfl (by kernel_rfl)) rfl ?_
        refine RdE.yes (Cod.iso_some (Cod.seq_some HD.out (Cod.seq_some HD2.out HD3.out))) ⟨_, rfl, ?_⟩ (Aft.far (Aft.far (Aft.far HA7.out (Nat.le_refl _) hlt _) (Nat.le_refl _) hlt _) (Nat.le_refl _) hlt _)
        exact k52_mkF _ _ (⟨n, n2, n3⟩ : S52)
      · exact ⟨rfl, RdE.no (Cod.iso_none (Cod.seq_none2 HD.out (Cod.seq_none2 HD2.out hd3))) (HA5.out.bel.trans hb) (HA5.out.keep.trans hk (.inl rfl))⟩
    · exact ⟨rfl, RdE.no (Cod.iso_none (Cod.seq_none2 HD.out (Cod.seq_none1 hd2))) (HA3.out.bel.trans hb) (HA3.out.keep.trans hk (.inl rfl))⟩
  · exact ⟨rfl, RdE.no (Cod.iso_none (Cod.seq_none1 hd)) (HA1.out.bel.trans hb) (HA1.out.keep.trans hk (.inl rfl))⟩
end Go.Proofs.Ytkkgbbfojmnopaa.G
end
