import Derived.Test.YtpdcedmnkkiekaaRows
import Derived.Test.YtpdcedmnkkiekaaPInGxF5
import Derived.Test.YtpdcedmnkkiekaaPInOk
import Derived.Test.YtpdcedmnkkiekaaPInPCI
import Derived.WalkKit
import Derived.ProofKit
import Derived.OpenShut
import Derived.ShutString
import Derived.ChangeOld
import Derived.Below
import Derived.SizedLaws
import Derived.Laws.IdiomArrays
set_option linter.unusedVariables false
set_option linter.unusedSimpArgs false
section
namespace Go.Proofs.Ytpdcedmnkkiekaa.codeInstrs
open Go.ChangeShapes Go.WideShapes Go.ChangeAt Go.RowKit Go.Proofs.Ytpdcedmnkkiekaa.G Go.Proofs.YtpdcedmnkkiekaaW.PrintWords
open Go.ChangeMaps (open_string shut_string)
set_option linter.unusedVariables false
theorem own : ownKnob Try.prog.godebug = none := by kernel_rfl
theorem laidOut : laidOutB Try.prog = true := by kernel_rfl
theorem four {l : List Value} (h : l.length = 4) : ∃ c0 c1 c2 c3, l = [c0, c1, c2, c3] := by
  match l, h with
  | [a, b, c, d], _ => exact ⟨a, b, c, d, rfl⟩
set_option maxRecDepth 100000 in
theorem lifted (os : Os) (started : os.Started) (H : Type) (enc : TypeId × Value → H) :
    ReturnsInHanded {} Try.checked os 5 .any (Rows.codeInstrsSpec.pre6 enc Try.prog Try.f5 Rows.codeInstrsRow.domain false) (Rows.codeInstrsSpec.post enc Try.prog Try.f5 false true false false) := by
  refine returnsInHanded_of_change_sized (C := Try.checked) own started (by kernel_rfl) Try.func5
    (ChangeSpec.witness6 (enc := enc) (C := Try.checked) false ⟨#[], #[.agg #[.int .i64 0, .int .i64 0, .int .i64 0], .agg #[.int .u8 0, .int .u8 0, .int .u8 0, .int .u8 0]], []⟩ 8 (by kernel_rfl) (by kernel_rfl) (by kernel_rfl) (by kernel_rfl)) ?_
  intro W base args ds gs before hval0 hW hcnd hsz0 _
  have hsz : (DataW.weightsEach Try.prog (Try.f5.params.toList ++ Rows.codeInstrsSpec.plain.varTypes Try.prog) (ds ++ gs)).all (· ≤ reachBytes) = true := hsz0
  have hval : ∀ (j : Nat) t v, Try.f5.params[j]? = some t → args[j]? = some v → Value.okWide Try.prog W .any base t v := hval0
  have hW' := hW
  obtain ⟨p, q, hA0, hV, rfl, hfz, hnd⟩ := hW
  have hA : DataW.TrodAll enc Try.prog W 0 (fun _ => true) true Try.f5.params.toList args.toList ds p := hA0
  rw [Try.params5] at hA hval hsz
  obtain ⟨v0, vs0, d0, ds0, p0, q0, hargs, rfl, rfl, h0, r0⟩ := trodAll_cons hA
  obtain ⟨v1, vs1, d1, ds1, p1, q1, rfl, rfl, rfl, h1, r1⟩ := trodAll_cons r0
  obtain ⟨rfl, rfl, rfl⟩ := trodAll_nil r1
  obtain rfl : args = #[v0, v1] := by cases args; simp_all
  obtain ⟨rfl, rfl⟩ := trodVars_none hV
  have hwt := Ok.sized_all hsz
  have k0 := h0
  have lt0 : ∀ x ∈ p0, x.block < W.heap.size := by obtain ⟨m, hm⟩ := k0; exact DataW.trod_lt m _ _ _ hm
  obtain ⟨cs0, rfl, _⟩ := okWide_struct Try.underlying33 (hval 0 33 v0 rfl rfl)
  obtain ⟨fuel0, hf0⟩ := h0
  obtain ⟨v'0, hK0, ok0, hm0⟩ := (Ok.Op.struct (K := (Kd.pair (Kd.int .i64) (Kd.pair (Kd.int .i64) (Kd.int .i64)))) (f := fun x => x) (fun v => v) Try.underlying33 (by kernel_rfl) (fun _ => rfl) (Ok.OpF.cons rfl (by kernel_rfl) rfl (Ok.Op.int Try.underlying3) (Ok.OpF.cons rfl (by kernel_rfl) rfl (Ok.Op.int Try.underlying3) (Ok.OpF.one rfl (by kernel_rfl) (Ok.Op.int Try.underlying3))))) H enc W 0 (fun _ => true) true fuel0 _ _ hf0 (Ok.weights_each (j := 0) rfl rfl hwt)
  obtain ⟨a0_0, a0_1, a0_2⟩ := v'0
  obtain ⟨_, _, eg0_0, g0_0a, g0_0b⟩ := hK0
  have q0_0 := g0_0a
  obtain ⟨_, _, eg0_1, g0_1a, g0_1b⟩ := g0_0b
  have q0_1 := g0_1a
  have q0_2 := g0_1b
  obtain rfl : cs0 = #[.int .i64 a0_0, .int .i64 a0_1, .int .i64 a0_2] := by
    try subst eg0_0
    try subst q0_0
    try subst eg0_1
    try subst q0_1
    try subst q0_2
    apply Array.ext'
    exact eg0_0
  have k1 := h1
  have lt1 : ∀ x ∈ p1, x.block < W.heap.size := by obtain ⟨m, hm⟩ := k1; exact DataW.trod_lt m _ _ _ hm
  have hag1 : ∃ cs : Array Value, v1 = .agg cs ∧ cs.size = Try.prog.cellsOf 34 := by
    have hw := (hval 1 34 v1 rfl rfl)
    simp only [Value.okWide, Try.underlying34] at hw
    obtain ⟨cs, h1, h2, _⟩ := hw
    exact ⟨cs, h1, h2⟩
  obtain ⟨cs1, rfl, hz1⟩ := hag1
  obtain ⟨ls1⟩ := cs1
  have hz'1 : ls1.length = 4 := (show ls1.length = _ from hz1).trans (by kernel_rfl)
  clear hz1
  obtain ⟨c0, c1, c2, c3, rfl⟩ := four hz'1
  obtain ⟨fuel1, hf1⟩ := h1
  obtain ⟨y0, y1, y2, y3, n1, _, t0, t1, t2, t3⟩ := trod_array4 Try.underlying34 (by kernel_rfl) hf1
  obtain ⟨a1_0, e0, _, ok1_0⟩ := DataW.trod_int Try.underlying5 t0
  obtain rfl : c0 = .int .u8 a1_0 := by simpa using e0
  obtain ⟨a1_1, e1, _, ok1_1⟩ := DataW.trod_int Try.underlying5 t1
  obtain rfl : c1 = .int .u8 a1_1 := by simpa using e1
  obtain ⟨a1_2, e2, _, ok1_2⟩ := DataW.trod_int Try.underlying5 t2
  obtain rfl : c2 = .int .u8 a1_2 := by simpa using e2
  obtain ⟨a1_3, e3, _, ok1_3⟩ := DataW.trod_int Try.underlying5 t3
  obtain rfl : c3 = .int .u8 a1_3 := by simpa using e3
  clear hA0 hval0 hsz0 hsz hwt
  obtain ⟨k, hpure⟩ := Z.codeInstrs a0_0 a0_1 a0_2 a1_0 a1_1 a1_2 a1_3 ok0 ok1_0 ok1_1 ok1_2 ok1_3
  refine (tallowlaw20_CodeInstrs.calls k a0_0 a0_1 a0_2 a1_0 a1_1 a1_2 a1_3 true W hpure).mono fun e W' ⟨he, bel⟩ => ?_
  subst he
  exact ⟨_, rfl, _, _, _, [], _, [], hW', trodAll_mk1 (shut_bool Try.underlying4 _), (trodAll_cons_mk (Below.trod laidOut (by kernel_rfl) (of_decide_eq_true (by kernel_rfl)) k0 bel lt0) (trodAll_cons_mk (Below.trod laidOut (by kernel_rfl) (of_decide_eq_true (by kernel_rfl)) k1 bel lt1) trodAll_mk0)), rfl, bel.frame _, fun h => by cases h⟩
theorem over : Rows.codeInstrsRow.holds Try.pinned (OpenSpec.ofChange Rows.codeInstrsSpec) :=
  OpenClaim.holds_of_wide 5 Try.f5 rfl rfl rfl rfl rfl rfl rfl ⟨rfl, rfl, rfl, rfl, rfl⟩ rfl rfl rfl rfl rfl (by kernel_rfl) Try.func5 (by kernel_rfl)
    (of_decide_eq_true (by kernel_rfl)) (by unfold Func.isWrapper; first | (rw [if_pos (by decide +kernel)]; kernel_rfl) | (rw [if_neg (by decide +kernel)]; exact ⟨rfl, rfl⟩))
    (fun os started H enc _ => lifted os started H enc)
theorem proved : Rows.CodeInstrsSaid := over
#print axioms proved
end Go.Proofs.Ytpdcedmnkkiekaa.codeInstrs
namespace Go.Proofs.Ytpdcedmnkkiekaa
theorem codeInstrs_holds : Rows.CodeInstrsSaid := codeInstrs.proved
end Go.Proofs.Ytpdcedmnkkiekaa
end
