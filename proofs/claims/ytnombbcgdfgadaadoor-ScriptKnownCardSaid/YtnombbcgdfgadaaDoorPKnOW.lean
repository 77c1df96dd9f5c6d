import Derived.LaidMore
import Derived.LaidHandle
import Derived.Stop.Joined
import Derived.Lib.IfaceEq
import Derived.Lib.ItoaLen
import Derived.Shelf.Strings.MapGrows
import Derived.Shelf.Abstract
import Derived.LaidEql
import Derived.Stop.Asserts
import Derived.RowKitTokens
import Derived.Lib.LaidTab
import Derived.Lib.AppendIntMem
import Derived.Stop.LaidErr
import Derived.WalkKit
import Derived.Deep.RegionLaw
import Derived.Deep.Cut
import Derived.WalkSpells
import Derived.Test.YtnombbcgdfgadaaDoorPKnP
import Derived.Test.YtnombbcgdfgadaaDoorPKnT
import Derived.Test.YtnombbcgdfgadaaDoorPKnD
import Derived.Test.YtnombbcgdfgadaaDoorPKnGxE44
import Derived.Lib.Hide
set_option linter.unusedVariables false
set_option linter.unusedSimpArgs false
section
namespace Go.Proofs.YtnombbcgdfgadaaDoor.G
open Go.Shelf Go.Extern.Stop Go.Stop Go.Extern Go.RowKit Go.Proofs.YtnombbcgdfgadaaDoorW.PrintWords Go.Proofs.YtnombbcgdfgadaaDoorW.PrintLast Go.Proofs.YtnombbcgdfgadaaDoorW.PrintMore
set_option linter.unusedVariables false
set_option linter.unusedSimpArgs false
theorem FaultV.below {w0 w1 w2 : World} {ev : Value} {c a : Int} (h : FaultV w0 w1 ev c a) (hb : Below w1.heap.size w1 w2) : FaultV w0 w2 ev c a := by
  rcases h with h | ⟨h1, p, h2, h3, h4⟩
  · exact .inl h
  · exact .inr ⟨h1, p, h2, h3, blk_below h4 hb⟩
theorem w_src : script_Parse.f 10 ⟨#[114, 117, 110, 32, 53, 10, 99, 111, 108, 108, 101, 99, 116, 10, 115, 111, 117, 114, 99, 101, 10, 111, 117, 116, 40, 49, 41, 10]⟩ = some (⟨#[111, 117, 116, 40, 49, 41, 10]⟩, [⟨0, 5⟩, ⟨3, 0⟩], 0, 0) := by kernel_rfl
theorem w_bad : script_Parse.f 10 ⟨#[114, 117, 110, 32, 48, 53, 10, 115, 111, 117, 114, 99, 101, 10]⟩ = some (⟨#[]⟩, [], 4, 0) := by kernel_rfl
theorem w_pr : printF ⟨#[]⟩ [] = (⟨#[115, 111, 117, 114, 99, 101, 10]⟩, 0) := by kernel_rfl
theorem print_empty (w : World) (hL : Laid w) : Calls Tryd.prog 13 #[.agg #[.string ⟨#[]⟩, .slice none 0 0]] w fun ev w' => ev = .returned (.tuple #[.string ⟨#[115, 111, 117, 114, 99, 101, 10]⟩, .int .i64 0]) ∧ Below w.heap.size w w' :=
  script_Print.calls ⟨#[]⟩ none 0 [] _ _ w hL (Kd.C_nil k44 w) (by decide) (by decide) w_pr
attribute [local go_sem high] eqA44
set_option maxHeartbeats 4000000 in
set_option maxRecDepth 100000 in
theorem works_any (w : World) (hL : Laid w) : Calls Tryd.prog 12 #[] w fun e w' => e = .returned (.bool true) ∧ Below w.heap.size w w' := by
  have HL := Aside0.mk hL
  clear hL
  go_enter Tryd.func12, Tryd.ntmps12
  go_wp2_with fail
  refine (script_Parse.calls 10 _ _ _ _ _ w HL.out w_src).mono ?_
  rintro e w1 ⟨v, ev, rfl, hR, hF, hb⟩
  obtain rfl : ev = .nilIface := by
    rcases hF with ⟨_, h⟩ | ⟨h, _⟩
    · exact h
    · exact absurd rfl h
  obtain ⟨g, cap, rfl, hg0, hgl, _⟩ := Kd.R_form hR (by decide)
  have hC := (Kd.R_reads' hR).2.2
  obtain ⟨ad0, e0, c0, c1⟩ := at_T44 hC 0 (by decide) (by decide)
  obtain ⟨ad1, e1, c2, c3⟩ := at_T44 hC 1 (by decide) (by decide)
  obtain rfl : (⟨g, 0, none⟩ : Addr) = ad0 := Option.some.inj e0
  obtain rfl : (⟨g, 0, none⟩ : Addr) = ad1 := Option.some.inj e1
  have HB1 := Aside0.mk hb
  have HG := Aside0.mk hgl
  clear hR hF hC hb e0 e1 hg0 hgl
  go_upto_region 2 with (fail)
  have h2 := below_alloc (Below.refl w1.heap.size w1) (.cells #[.string ⟨#[111, 117, 116, 40, 49, 41, 10]⟩, .slice (some ⟨g, 0, none⟩) 2 cap] 24 (0, 0))
  have d0 : (w1.alloc (.cells #[.string ⟨#[111, 117, 116, 40, 49, 41, 10]⟩, .slice (some ⟨g, 0, none⟩) 2 cap] 24)).cell? ⟨g, 0, none⟩ = some (.int .i64 0) := (h2.cell HG.out).trans c0
  have d1 : (w1.alloc (.cells #[.string ⟨#[111, 117, 116, 40, 49, 41, 10]⟩, .slice (some ⟨g, 0, none⟩) 2 cap] 24)).cell? ⟨g, 1, none⟩ = some (.int .i64 5) := (h2.cell HG.out).trans c1
  have d2 : (w1.alloc (.cells #[.string ⟨#[111, 117, 116, 40, 49, 41, 10]⟩, .slice (some ⟨g, 0, none⟩) 2 cap] 24)).cell? ⟨g, 2, none⟩ = some (.int .i64 3) := (h2.cell HG.out).trans c2
  have d3 : (w1.alloc (.cells #[.string ⟨#[111, 117, 116, 40, 49, 41, 10]⟩, .slice (some ⟨g, 0, none⟩) 2 cap] 24)).cell? ⟨g, 3, none⟩ = some (.int .i64 0) := (h2.cell HG.out).trans c3
  have b0 := blk_new w1 (.cells #[.string ⟨#[111, 117, 116, 40, 49, 41, 10]⟩, .slice (some ⟨g, 0, none⟩) 2 cap] 24 (0, 0))
  obtain ⟨w2, hw2⟩ : ∃ x, x = w1.alloc (.cells #[.string ⟨#[111, 117, 116, 40, 49, 41, 10]⟩, .slice (some ⟨g, 0, none⟩) 2 cap] 24) := ⟨_, rfl⟩
  rw [← hw2] at d0 d1 d2 d3 b0 h2 ⊢
  obtain ⟨b1, hb1⟩ : ∃ x, x = w1.heap.size := ⟨_, rfl⟩
  rw [← hb1] at b0 ⊢
  have HB2 := Aside0.mk (below_step HB1.out h2)
  have t0 : w2.cell? ⟨b1, 0, none⟩ = some (.string ⟨#[111, 117, 116, 40, 49, 41, 10]⟩) := (blk_cell b0 0).trans rfl
  have t1 : w2.cell? ⟨b1, 1, none⟩ = some (.slice (some ⟨g, 0, none⟩) 2 cap) := (blk_cell b0 1).trans rfl
  clear h2 b0 hw2 hb1 c0 c1 c2 c3 HB1 HG
  go_wp2_with fail
  refine (script_Parse.calls 10 _ _ _ _ _ w2 (Laid.below HB2.out HL.out) w_bad).mono ?_
  rintro e w3 ⟨v, ev, rfl, hR, hF, hb⟩
  obtain ⟨A, cc, rfl⟩ := Kd.R_slice hR
  have HF3 := Aside0.mk hF
  have HB3 := Aside0.mk (below_step HB2.out hb)
  clear hR hF hb d0 d1 d2 d3 t0 t1 HB2
  go_upto_region 5 with (fail)
  have h4 := below_alloc (Below.refl w3.heap.size w3) (.cells #[.string ⟨#[]⟩, .slice A 0 cc] 24 (0, 0))
  have hf4 := FaultV.below HF3.out h4
  have hb4 := below_step HB3.out h4
  generalize w3.alloc (.cells #[.string ⟨#[]⟩, .slice A 0 cc] 24) = w4 at hf4 hb4 ⊢
  have HF4 := Aside0.mk hf4
  have HB4 := Aside0.mk hb4
  clear hf4 hb4
  clear HF3 HB3
  go_wp2_with fail
  refine (print_empty w4 (Laid.below HB4.out HL.out)).mono ?_
  rintro e w5 ⟨rfl, hb⟩
  have HF5 := Aside0.mk (FaultV.below HF4.out hb)
  have HB5 := Aside0.mk (below_step HB4.out hb)
  clear hb HF4 HB4
  go_wp2_with fail
  refine (told_true ev 4 0 0 _ w5 (Laid.below HB5.out HL.out) HF5.out (fun _ => rfl)).mono ?_
  rintro e w6 ⟨rfl, hb⟩
  have HB6 := Aside0.mk (below_step HB5.out hb)
  clear hb HB5 HF5
  go_wp2_with fail
  go_ret
  exact ⟨rfl, HB6.out⟩
end Go.Proofs.YtnombbcgdfgadaaDoor.G
end
