/- ValParts: what is an object's may be, is true and a key, and what may not be is none of these; for all values. No condition beyond the row's own. -/
import Derived.Test.YtdniemdjoipbiaaRows
import Derived.Test.YtdniemdjoipbiaaGx5
import Derived.Test.YtdniemdjoipbiaaOk
import Derived.Test.YtdniemdjoipbiaaPureValParts
import Derived.WalkKit
import Derived.ProofKit
import Derived.OpenShut
import Derived.ShutString
import Derived.ChangeOld
import Derived.Below
import Derived.SizedLaws
namespace Go.Proofs.Ytdniemdjoipbiaa.valParts
open Go.ChangeShapes Go.WideShapes Go.ChangeAt Go.RowKit Go.Proofs.Ytdniemdjoipbiaa.G Go.Proofs.YtdniemdjoipbiaaW.PrintWords
open Go.ChangeMaps (open_string shut_string)
set_option linter.unusedVariables false
theorem own : ownKnob Try.prog.godebug = none := by kernel_rfl
theorem laidOut : laidOutB Try.prog = true := by kernel_rfl
set_option maxRecDepth 100000 in
theorem lifted (os : Os) (started : os.Started) (H : Type) (enc : TypeId × Value → H) :
    ReturnsInHanded {} Try.checked os 6 .any (Rows.valPartsSpec.pre6 enc Try.prog Try.f6 Rows.valPartsRow.domain false) (Rows.valPartsSpec.post enc Try.prog Try.f6 false true false false) := by
  refine returnsInHanded_of_change_sized (C := Try.checked) own started (by kernel_rfl) Try.func6
    (ChangeSpec.witness6 (enc := enc) (C := Try.checked) false ⟨#[], #[.agg #[.int .i64 0, .int .i64 0]], []⟩ 8 (by kernel_rfl) (by kernel_rfl) (by kernel_rfl) (by kernel_rfl)) ?_
  intro W base args ds gs before hval0 hW hcnd hsz0 _
  have hsz : (DataW.weightsEach Try.prog (Try.f6.params.toList ++ Rows.valPartsSpec.plain.varTypes Try.prog) (ds ++ gs)).all (· ≤ reachBytes) = true := hsz0
  have hval : ∀ (j : Nat) t v, Try.f6.params[j]? = some t → args[j]? = some v → Value.okWide Try.prog W .any base t v := hval0
  have hW' := hW
  obtain ⟨p, q, hA0, hV, rfl, hfz, hnd⟩ := hW
  have hA : DataW.TrodAll enc Try.prog W 0 (fun _ => true) true Try.f6.params.toList args.toList ds p := hA0
  rw [Try.params6] at hA hval hsz
  obtain ⟨v0, vs0, d0, ds0, p0, q0, hargs, rfl, rfl, h0, r0⟩ := trodAll_cons hA
  obtain ⟨rfl, rfl, rfl⟩ := trodAll_nil r0
  obtain rfl : args = #[v0] := by cases args; simp_all
  obtain ⟨rfl, rfl⟩ := trodVars_none hV
  have hwt := Ok.sized_all hsz
  have k0 := h0
  have lt0 : ∀ x ∈ p0, x.block < W.heap.size := by obtain ⟨m, hm⟩ := k0; exact DataW.trod_lt m _ _ _ hm
  obtain ⟨cs0, rfl, _⟩ := okWide_struct Try.underlying23 (hval 0 23 v0 rfl rfl)
  obtain ⟨fuel0, hf0⟩ := h0
  obtain ⟨v'0, hK0, ok0, hm0⟩ := (Ok.Op.struct (K := (Kd.pair (Kd.int .i64) (Kd.int .i64))) (f := fun x => x) (fun v => v) Try.underlying23 (by kernel_rfl) (fun _ => rfl) (Ok.OpF.cons rfl (by kernel_rfl) rfl (Ok.Op.int Try.underlying3) (Ok.OpF.one rfl (by kernel_rfl) (Ok.Op.int Try.underlying2)))) H enc W 0 (fun _ => true) true fuel0 _ _ hf0 (Ok.weights_each (j := 0) rfl rfl hwt)
  obtain ⟨a0_0, a0_1⟩ := v'0
  obtain ⟨_, _, eg0_0, g0_0a, g0_0b⟩ := hK0
  have q0_0 := g0_0a
  have q0_1 := g0_0b
  obtain rfl : cs0 = #[.int .i64 a0_0, .int .i64 a0_1] := by
    try subst eg0_0
    try subst q0_0
    try subst q0_1
    apply Array.ext'
    exact eg0_0
  clear hA0 hval0 hsz0 hsz hwt
  obtain ⟨k, hpure⟩ := Pure.ValParts a0_0 a0_1 ok0
  refine (tallowlaw02_ValParts.calls a0_0 a0_1 true W hpure).mono fun e W' ⟨he, bel⟩ => ?_
  subst he
  exact ⟨_, rfl, _, _, _, [], _, [], hW', trodAll_mk1 (shut_bool Try.underlying4 _), (trodAll_cons_mk (Below.trod laidOut (by kernel_rfl) (of_decide_eq_true (by kernel_rfl)) k0 bel lt0) trodAll_mk0), rfl, bel.frame _, fun h => by cases h⟩
theorem over : Rows.valPartsRow.holds Try.pinned (OpenSpec.ofChange Rows.valPartsSpec) :=
  OpenClaim.holds_of_wide 6 Try.f6 rfl rfl rfl rfl rfl rfl rfl ⟨rfl, rfl, rfl, rfl, rfl⟩ rfl rfl rfl rfl rfl (by kernel_rfl) Try.func6 (by kernel_rfl)
    (of_decide_eq_true (by kernel_rfl)) (by unfold Func.isWrapper; first | (rw [if_pos (by decide +kernel)]; kernel_rfl) | (rw [if_neg (by decide +kernel)]; exact ⟨rfl, rfl⟩))
    (fun os started H enc _ => lifted os started H enc)
theorem proved : Rows.ValPartsSaid := over
#print axioms proved
end Go.Proofs.Ytdniemdjoipbiaa.valParts
namespace Go.Proofs.Ytdniemdjoipbiaa
/-- The row, under a short name, for the claim. -/
theorem valParts_holds : Rows.ValPartsSaid := valParts.proved
end Go.Proofs.Ytdniemdjoipbiaa
