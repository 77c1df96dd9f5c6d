import Derived.LaidMore
import Derived.LaidHandle
import Derived.Stop.Joined
import Derived.Lib.IfaceEq
import Derived.Lib.IndexMore
import Derived.Shelf.Abstract
import Derived.LaidEql
import Derived.Stop.Asserts
import Derived.RowKitTokens
import Derived.Lib.LaidTab
import Derived.Lib.AppendIntMem
import Derived.Stop.LaidErr
import Derived.WalkKit
import Derived.Deep.RegionLaw
import Derived.Deep.Cut
import Derived.WalkSpells
import Derived.Maps.OwnOps
import Derived.Maps.OwnSet
import Derived.Maps.Views
import Derived.Maps.RangeWalk
import Derived.Maps.Own
import Derived.Test.YtlbaejihlcfpeaaDoorPNmT
import Derived.Lib.Hide
set_option linter.unusedVariables false
set_option linter.unusedSimpArgs false
section
namespace Go.Proofs.YtlbaejihlcfpeaaDoor.G
open Go.Proofs.YtlbaejihlcfpeaaDoor.G Go.Proofs.YtlbaejihlcfpeaaDoor.Z
open Go.Shelf Go.Extern.Stop Go.Stop Go.Extern Go.RowKit Go.Proofs.YtlbaejihlcfpeaaDoorW.PrintWords Go.Proofs.YtlbaejihlcfpeaaDoorW.PrintLast Go.Proofs.YtlbaejihlcfpeaaDoorW.PrintMore
set_option linter.unusedVariables false
set_option linter.unusedSimpArgs false
theorem FaultV.below {w0 w1 w2 : World} {ev : Value} {c a : Int} (h : FaultV w0 w1 ev c a) (hb : Below w1.heap.size w1 w2) : FaultV w0 w2 ev c a := by
  rcases h with h | ⟨h1, p, h2, h3, h4⟩
  · exact .inl h
  · exact .inr ⟨h1, p, h2, h3, blk_below h4 hb⟩
theorem w_src : lexR ⟨#[120, 61, 49, 46, 46, 121]⟩ = ([⟨1, ⟨#[120]⟩, 0, 0⟩, ⟨4, ⟨#[61]⟩, 0, 0⟩, ⟨2, ⟨#[49]⟩, 1, 0⟩, ⟨4, ⟨#[46, 46]⟩, 0, 0⟩, ⟨1, ⟨#[121]⟩, 0, 0⟩, ⟨5, ⟨#[]⟩, 0, 0⟩], 0, 0) := by kernel_rfl
theorem w_bad : lexR ⟨#[97, 10, 49, 120]⟩ = ([], 14, 1) := by kernel_rfl
theorem w_nl : lexR ⟨#[10]⟩ = ([⟨5, ⟨#[]⟩, 0, 1⟩], 0, 0) := by kernel_rfl
theorem w_end : resF (⟨#[101, 110, 100]⟩ : ByteArray).data.toList = true := by kernel_rfl
theorem w_out : resF (⟨#[111, 117, 116]⟩ : ByteArray).data.toList = false := by kernel_rfl
theorem tok_at (s : ByteArray) (xs : List S34) (c l : Int) (h : lexR s = (xs.map (fun x => (⟨x.f0, x.f1, x.f2, x.f3⟩ : Tk)), c, l)) (w : World) (hL : Laid w) (hs : s.size ≤ 140737488351232) :
    Calls Tryd.prog 8 #[.string s] w fun e w' => ∃ v ev, e = .returned (.tuple #[v, ev]) ∧ Kd.R k34 34 w' w.heap.size (fun k => w.heap.size ≤ k) v xs ∧ FaultV w w' ev c l ∧ Below w.heap.size w w' := by
  refine (tokens_any s w hL hs).mono ?_
  rintro e w' ⟨v, ev, he, hR, hF, hb⟩
  rw [h] at hR hF
  refine ⟨v, ev, he, ?_, hF, hb⟩
  have : (xs.map (fun x => (⟨x.f0, x.f1, x.f2, x.f3⟩ : Tk))).map tkS = xs := by
    rw [List.map_map]
    have e : (tkS ∘ fun x : S34 => (⟨x.f0, x.f1, x.f2, x.f3⟩ : Tk)) = id := rfl
    rw [e, List.map_id]
  rw [← this]
  exact hR
attribute [local go_sem high] eqA34
set_option maxHeartbeats 4000000 in
set_option maxRecDepth 100000 in
theorem works_any (w : World) (hL : Laid w) : Calls Tryd.prog 7 #[] w fun e w' => e = .returned (.bool true) ∧ Below w.heap.size w w' := by
  have HL := Aside0.mk hL
  clear hL
  go_enter Tryd.func7, Tryd.ntmps7
  go_wp2_with fail
  refine (tok_at _ [⟨1, ⟨#[120]⟩, 0, 0⟩, ⟨4, ⟨#[61]⟩, 0, 0⟩, ⟨2, ⟨#[49]⟩, 1, 0⟩, ⟨4, ⟨#[46, 46]⟩, 0, 0⟩, ⟨1, ⟨#[121]⟩, 0, 0⟩, ⟨5, ⟨#[]⟩, 0, 0⟩] 0 0 w_src w HL.out (by decide)).mono ?_
  rintro e w1 ⟨v, ev, rfl, hR, hF, hb⟩
  obtain rfl : ev = .nilIface := by
    rcases hF with ⟨_, h⟩ | ⟨h, _⟩
    · exact h
    · exact absurd rfl h
  obtain ⟨g, cap, rfl, hg0, hgl, _⟩ := Kd.R_form hR (by decide)
  have HC := Aside0.mk (Kd.R_reads' hR).2.2
  have HB1 := Aside0.mk hb
  have HG := Aside0.mk hgl
  clear hR hF hb hg0 hgl
  go_wp2_with fail
  refine (tok_at _ [] 14 1 w_bad w1 (Laid.below HB1.out HL.out) (by decide)).mono ?_
  rintro e w3 ⟨v, ev, rfl, hR, hF, hb⟩
  obtain ⟨A, cc, rfl⟩ := Kd.R_slice hR
  have HF3 := Aside0.mk hF
  have HC3 := Aside0.mk (Kd.C_below HC.out hb)
  have HB3 := Aside0.mk (below_step HB1.out hb)
  clear hR hF hb HC HB1
  go_wp2_with fail
  refine (tok_at _ [⟨5, ⟨#[]⟩, 0, 1⟩] 0 0 w_nl w3 (Laid.below HB3.out HL.out) (by decide)).mono ?_
  rintro e w4 ⟨v, ev2, rfl, hR, hF, hb⟩
  obtain rfl : ev2 = .nilIface := by
    rcases hF with ⟨_, h⟩ | ⟨h, _⟩
    · exact h
    · exact absurd rfl h
  obtain ⟨g2, cap2, rfl, _, _, _⟩ := Kd.R_form hR (by decide)
  have HD4 := Aside0.mk (Kd.R_reads' hR).2.2
  have HC4 := Aside0.mk (Kd.C_below HC3.out hb)
  have HF4 := Aside0.mk (FaultV.below HF3.out hb)
  have HB4 := Aside0.mk (below_step HB3.out hb)
  clear hR hF hb HC3 HF3 HB3
  obtain ⟨ad0, e0, c00, c01, c02, c03⟩ := at_T41 HC4.out 0 (by decide) (by decide)
  obtain ⟨ad1, e1, c20, c21, c22, c23⟩ := at_T41 HC4.out 2 (by decide) (by decide)
  obtain ⟨ad2, e2, c30, c31, c32, c33⟩ := at_T41 HC4.out 3 (by decide) (by decide)
  obtain ⟨ad3, e3, c50, c51, c52, c53⟩ := at_T41 HC4.out 5 (by decide) (by decide)
  obtain rfl : (⟨g, 0, none⟩ : Addr) = ad0 := Option.some.inj e0
  obtain rfl : (⟨g, 0, none⟩ : Addr) = ad1 := Option.some.inj e1
  obtain rfl : (⟨g, 0, none⟩ : Addr) = ad2 := Option.some.inj e2
  obtain rfl : (⟨g, 0, none⟩ : Addr) = ad3 := Option.some.inj e3
  clear e0 e1 e2 e3
  have x00 : w4.cell? ⟨g, 0, none⟩ = some (.int .i64 1) := c00
  have x01 : w4.cell? ⟨g, 1, none⟩ = some (.string ⟨#[120]⟩) := c01
  have x02 : w4.cell? ⟨g, 2, none⟩ = some (.int .i64 0) := c02
  have x03 : w4.cell? ⟨g, 3, none⟩ = some (.int .i64 0) := c03
  have x20 : w4.cell? ⟨g, 8, none⟩ = some (.int .i64 2) := c20
  have x21 : w4.cell? ⟨g, 9, none⟩ = some (.string ⟨#[49]⟩) := c21
  have x22 : w4.cell? ⟨g, 10, none⟩ = some (.int .i64 1) := c22
  have x23 : w4.cell? ⟨g, 11, none⟩ = some (.int .i64 0) := c23
  have x30 : w4.cell? ⟨g, 12, none⟩ = some (.int .i64 4) := c30
  have x31 : w4.cell? ⟨g, 13, none⟩ = some (.string ⟨#[46, 46]⟩) := c31
  have x32 : w4.cell? ⟨g, 14, none⟩ = some (.int .i64 0) := c32
  have x33 : w4.cell? ⟨g, 15, none⟩ = some (.int .i64 0) := c33
  have x50 : w4.cell? ⟨g, 20, none⟩ = some (.int .i64 5) := c50
  have x51 : w4.cell? ⟨g, 21, none⟩ = some (.string ⟨#[]⟩) := c51
  have x52 : w4.cell? ⟨g, 22, none⟩ = some (.int .i64 0) := c52
  have x53 : w4.cell? ⟨g, 23, none⟩ = some (.int .i64 0) := c53
  clear c00 c01 c02 c03 c20 c21 c22 c23 c30 c31 c32 c33 c50 c51 c52 c53
  go_wp2_with fail
  refine (told_true ev 14 1 1 _ w4 (Laid.below HB4.out HL.out) HF4.out (fun _ => rfl)).mono ?_
  rintro e w5 ⟨rfl, hb⟩
  have HB5 := Aside0.mk (below_step HB4.out hb)
  have HD5 := Aside0.mk (Kd.C_below HD4.out hb)
  clear hb
  obtain ⟨ad4, e4, d00, d01, d02, d03⟩ := at_T41 HD5.out 0 (by decide) (by decide)
  obtain rfl : (⟨g2, 0, none⟩ : Addr) = ad4 := Option.some.inj e4
  have y3 : w5.cell? ⟨g2, 3, none⟩ = some (.int .i64 1) := d03
  clear e4 d00 d01 d02 d03
  clear x00 x01 x02 x03 x20 x21 x22 x23 x30 x31 x32 x33 x50 x51 x52 x53
  go_wp2_with fail
  refine (res_any _ w5 (Laid.below HB5.out HL.out) (by decide)).mono ?_
  rintro e w6 ⟨rfl, hb⟩
  rw [w_end]
  have HB6 := Aside0.mk (below_step HB5.out hb)
  clear hb y3
  go_wp2_with fail
  refine (res_any _ w6 (Laid.below HB6.out HL.out) (by decide)).mono ?_
  rintro e w7 ⟨rfl, hb⟩
  rw [w_out]
  have HB7 := Aside0.mk (below_step HB6.out hb)
  clear hb
  go_wp2_with fail
  go_ret
  exact ⟨rfl, HB7.out⟩
end Go.Proofs.YtlbaejihlcfpeaaDoor.G
end
