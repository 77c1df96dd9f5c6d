import Derived.Test.YtadhkfklkbdabaaRRows
import Derived.Test.YtadhkfklkbdabaaRPPuGxF3
import Derived.Test.YtadhkfklkbdabaaRPPuOk
import Derived.Test.YtadhkfklkbdabaaRPPuQ18
import Derived.WalkKit
import Derived.ProofKit
import Derived.OpenShut
import Derived.ShutString
import Derived.ChangeOld
import Derived.Below
import Derived.SizedLaws
import Derived.Laws.IdiomArrays
set_option linter.unusedVariables false
set_option linter.unusedSimpArgs false
section
namespace Go.Proofs.YtadhkfklkbdabaaR.dictPuts
open Go.ChangeShapes Go.WideShapes Go.ChangeAt Go.RowKit Go.Proofs.YtadhkfklkbdabaaR.G Go.Proofs.YtadhkfklkbdabaaRW.PrintWords
open Go.ChangeMaps (open_string shut_string)
set_option linter.unusedVariables false
theorem own : ownKnob Try.prog.godebug = none := by kernel_rfl
theorem laidOut : laidOutB Try.prog = true := by kernel_rfl
set_option maxRecDepth 100000 in
theorem lifted (os : Os) (started : os.Started) (H : Type) (enc : TypeId × Value → H) :
  ReturnsInHanded {} Try.checked os 3 .any (Rows.dictPutsSpec.pre6 enc Try.prog Try.f3 Rows.dictPutsRow.domain false) (Rows.dictPutsSpec.post enc Try.prog Try.f3 false true false false) := by
 refine returnsInHanded_of_change_sized (C := Try.checked) own started (by kernel_rfl) Try.func3
  (ChangeSpec.witness6 (enc := enc) (C := Try.checked) false ⟨#[], #[.slice none 0 0, .agg #[.int .i64 0, .int .i64 0], .agg #[.int .i64 0, .int .i64 0]], []⟩ 8 (by kernel_rfl) (by kernel_rfl) (by kernel_rfl) (by kernel_rfl)) ?_
 intro W base args ds gs before hval0 hW hcnd hsz0 _
 have hsz : (DataW.weightsEach Try.prog (Try.f3.params.toList ++ Rows.dictPutsSpec.plain.varTypes Try.prog) (ds ++ gs)).all (· ≤ reachBytes) = true := hsz0
 have hval : ∀ (j : Nat) t v, Try.f3.params[j]? = some t → args[j]? = some v → Value.okWide Try.prog W .any base t v := hval0
 have hW' := hW
 obtain ⟨p, q, hA0, hV, rfl, hfz, hnd⟩ := hW
 have hA : DataW.TrodAll enc Try.prog W 0 (fun _ => true) true Try.f3.params.toList args.toList ds p := hA0
 rw [Try.params3] at hA hval hsz
 obtain ⟨v0, vs0, d0, ds0, p0, q0, hargs, rfl, rfl, h0, r0⟩ := trodAll_cons hA
 obtain ⟨v1, vs1, d1, ds1, p1, q1, rfl, rfl, rfl, h1, r1⟩ := trodAll_cons r0
 obtain ⟨v2, vs2, d2, ds2, p2, q2, rfl, rfl, rfl, h2, r2⟩ := trodAll_cons r1
 obtain ⟨rfl, rfl, rfl⟩ := trodAll_nil r2
 obtain rfl : args = #[v0, v1, v2] := by cases args; simp_all
 obtain ⟨rfl, rfl⟩ := trodVars_none hV
 have hwt := Ok.sized_all hsz
 have k0 := h0
 have lt0 : ∀ x ∈ p0, x.block < W.heap.size := by obtain ⟨m, hm⟩ := k0; exact DataW.trod_lt m _ _ _ hm
 obtain ⟨A0, len0, c0, rfl⟩ := okWide_slice Try.underlying22 (hval 0 22 v0 rfl rfl)
 obtain ⟨fuel0, hf0⟩ := h0
 obtain ⟨l0, hK0, ok0, hm0⟩ := (Ok.Op.slice (B := 16) Try.underlying22 (by kernel_rfl) (by kernel_rfl) (Ok.Op.struct (K := (Kd.pair (Kd.int .i64) (Kd.int .i64))) (f := fun x : S24 => (x.f0, x.f1)) (fun v : Int × Int => (⟨v.1, v.2⟩ : S24)) Try.underlying24 (by kernel_rfl) (fun _ => rfl) (Ok.OpF.cons rfl (by kernel_rfl) rfl (Ok.Op.int Try.underlying3) (Ok.OpF.one rfl (by kernel_rfl) (Ok.Op.int Try.underlying2))))) H enc W 0 (fun _ => true) true fuel0 _ _ hf0 (Ok.weights_each (j := 0) rfl rfl hwt)
 obtain ⟨A'0, c'0, hcs0, hc0, hr0⟩ := hK0
 have hcs'0 : [Value.slice A0 len0 c0] = [.slice A'0 l0.length c'0] := hcs0
 simp only [List.cons.injEq, Value.slice.injEq, and_true] at hcs'0
 obtain ⟨rfl, rfl, rfl⟩ := hcs'0
 have k1 := h1
 have lt1 : ∀ x ∈ p1, x.block < W.heap.size := by obtain ⟨m, hm⟩ := k1; exact DataW.trod_lt m _ _ _ hm
 obtain ⟨cs1, rfl, _⟩ := okWide_struct Try.underlying24 (hval 1 24 v1 rfl rfl)
 obtain ⟨fuel1, hf1⟩ := h1
 obtain ⟨v'1, hK1, ok1, hm1⟩ := (Ok.Op.struct (K := (Kd.pair (Kd.int .i64) (Kd.int .i64))) (f := fun x => x) (fun v => v) Try.underlying24 (by kernel_rfl) (fun _ => rfl) (Ok.OpF.cons rfl (by kernel_rfl) rfl (Ok.Op.int Try.underlying3) (Ok.OpF.one rfl (by kernel_rfl) (Ok.Op.int Try.underlying2)))) H enc W 0 (fun _ => true) true fuel1 _ _ hf1 (Ok.weights_each (j := 1) rfl rfl hwt)
 obtain ⟨a1_0, a1_1⟩ := v'1
 obtain ⟨_, _, eg1_0, g1_0a, g1_0b⟩ := hK1
 have q1_0 := g1_0a
 have q1_1 := g1_0b
 obtain rfl : cs1 = #[.int .i64 a1_0, .int .i64 a1_1] := by
  try subst eg1_0
  try subst q1_0
  try subst q1_1
  apply Array.ext'
  exact eg1_0
 have k2 := h2
 have lt2 : ∀ x ∈ p2, x.block < W.heap.size := by obtain ⟨m, hm⟩ := k2; exact DataW.trod_lt m _ _ _ hm
 obtain ⟨cs2, rfl, _⟩ := okWide_struct Try.underlying24 (hval 2 24 v2 rfl rfl)
 obtain ⟨fuel2, hf2⟩ := h2
 obtain ⟨v'2, hK2, ok2, hm2⟩ := (Ok.Op.struct (K := (Kd.pair (Kd.int .i64) (Kd.int .i64))) (f := fun x => x) (fun v => v) Try.underlying24 (by kernel_rfl) (fun _ => rfl) (Ok.OpF.cons rfl (by kernel_rfl) rfl (Ok.Op.int Try.underlying3) (Ok.OpF.one rfl (by kernel_rfl) (Ok.Op.int Try.underlying2)))) H enc W 0 (fun _ => true) true fuel2 _ _ hf2 (Ok.weights_each (j := 2) rfl rfl hwt)
 obtain ⟨a2_0, a2_1⟩ := v'2
 obtain ⟨_, _, eg2_0, g2_0a, g2_0b⟩ := hK2
 have q2_0 := g2_0a
 have q2_1 := g2_0b
 obtain rfl : cs2 = #[.int .i64 a2_0, .int .i64 a2_1] := by
  try subst eg2_0
  try subst q2_0
  try subst q2_1
  apply Array.ext'
  exact eg2_0
 clear hA0 hval0 hsz0 hsz hwt
 obtain ⟨k, hpure⟩ := G.dictPuts l0 a1_0 a1_1 a2_0 a2_1 ok0 ok1 ok2
 refine (tallowlaw09_DictPuts.calls k A0 c0 l0 a1_0 a1_1 a2_0 a2_1 true W hr0 hc0 hpure).mono fun e W' ⟨he, bel⟩ => ?_
 subst he
 exact ⟨_, rfl, _, _, _, [], _, [], hW', trodAll_mk1 (shut_bool Try.underlying4 _), (trodAll_cons_mk (Below.trod laidOut (by kernel_rfl) (of_decide_eq_true (by kernel_rfl)) k0 bel lt0) (trodAll_cons_mk (Below.trod laidOut (by kernel_rfl) (of_decide_eq_true (by kernel_rfl)) k1 bel lt1) (trodAll_cons_mk (Below.trod laidOut (by kernel_rfl) (of_decide_eq_true (by kernel_rfl)) k2 bel lt2) trodAll_mk0))), rfl, bel.frame _, fun h => by cases h⟩
theorem over : Rows.dictPutsRow.holds Try.pinned (OpenSpec.ofChange Rows.dictPutsSpec) :=
 OpenClaim.holds_of_wide 3 Try.f3 rfl rfl rfl rfl rfl rfl rfl ⟨rfl, rfl, rfl, rfl, rfl⟩ rfl rfl rfl rfl rfl (by kernel_rfl) Try.func3 (by kernel_rfl)
  (of_decide_eq_true (by kernel_rfl)) (by unfold Func.isWrapper; first | (rw [if_pos (by decide +kernel)]; kernel_rfl) | (rw [if_neg (by decide +kernel)]; exact ⟨rfl, rfl⟩))
  (fun os started H enc _ => lifted os started H enc)
theorem proved : Rows.DictPutsSaid := over
#print axioms proved
end Go.Proofs.YtadhkfklkbdabaaR.dictPuts
namespace Go.Proofs.YtadhkfklkbdabaaR
theorem dictPuts_holds : Rows.DictPutsSaid := dictPuts.proved
end Go.Proofs.YtadhkfklkbdabaaR
end
