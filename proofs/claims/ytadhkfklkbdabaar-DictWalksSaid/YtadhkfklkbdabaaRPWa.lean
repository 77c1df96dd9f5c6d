import Derived.Test.YtadhkfklkbdabaaRRows
import Derived.Test.YtadhkfklkbdabaaRPWaGxF8
import Derived.Test.YtadhkfklkbdabaaRPWaOk
import Derived.Test.YtadhkfklkbdabaaRPWaQ14
import Derived.WalkKit
import Derived.ProofKit
import Derived.OpenShut
import Derived.ShutString
import Derived.ChangeOld
import Derived.Below
import Derived.SizedLaws
import Derived.Laws.IdiomArrays
set_option linter.unusedVariables false
set_option linter.unusedSimpArgs false
section
namespace Go.Proofs.YtadhkfklkbdabaaR.dictWalks
open Go.ChangeShapes Go.WideShapes Go.ChangeAt Go.RowKit Go.Proofs.YtadhkfklkbdabaaR.G Go.Proofs.YtadhkfklkbdabaaRW.PrintWords
open Go.ChangeMaps (open_string shut_string)
set_option linter.unusedVariables false
theorem own : ownKnob Try.prog.godebug = none := by kernel_rfl
theorem laidOut : laidOutB Try.prog = true := by kernel_rfl
set_option maxRecDepth 100000 in
theorem lifted (os : Os) (started : os.Started) (H : Type) (enc : TypeId × Value → H) :
  ReturnsInHanded {} Try.checked os 8 .any (Rows.dictWalksSpec.pre6 enc Try.prog Try.f8 Rows.dictWalksRow.domain false) (Rows.dictWalksSpec.post enc Try.prog Try.f8 false true false false) := by
 refine returnsInHanded_of_change_sized (C := Try.checked) own started (by kernel_rfl) Try.func8
  (ChangeSpec.witness6 (enc := enc) (C := Try.checked) false ⟨#[], #[.slice none 0 0], []⟩ 8 (by kernel_rfl) (by kernel_rfl) (by kernel_rfl) (by kernel_rfl)) ?_
 intro W base args ds gs before hval0 hW hcnd hsz0 _
 have hsz : (DataW.weightsEach Try.prog (Try.f8.params.toList ++ Rows.dictWalksSpec.plain.varTypes Try.prog) (ds ++ gs)).all (· ≤ reachBytes) = true := hsz0
 have hval : ∀ (j : Nat) t v, Try.f8.params[j]? = some t → args[j]? = some v → Value.okWide Try.prog W .any base t v := hval0
 have hW' := hW
 obtain ⟨p, q, hA0, hV, rfl, hfz, hnd⟩ := hW
 have hA : DataW.TrodAll enc Try.prog W 0 (fun _ => true) true Try.f8.params.toList args.toList ds p := hA0
 rw [Try.params8] at hA hval hsz
 obtain ⟨v0, vs0, d0, ds0, p0, q0, hargs, rfl, rfl, h0, r0⟩ := trodAll_cons hA
 obtain ⟨rfl, rfl, rfl⟩ := trodAll_nil r0
 obtain rfl : args = #[v0] := by cases args; simp_all
 obtain ⟨rfl, rfl⟩ := trodVars_none hV
 have hwt := Ok.sized_all hsz
 have k0 := h0
 have lt0 : ∀ x ∈ p0, x.block < W.heap.size := by obtain ⟨m, hm⟩ := k0; exact DataW.trod_lt m _ _ _ hm
 obtain ⟨A0, len0, c0, rfl⟩ := okWide_slice Try.underlying42 (hval 0 42 v0 rfl rfl)
 obtain ⟨fuel0, hf0⟩ := h0
 obtain ⟨l0, hK0, ok0, hm0⟩ := (Ok.Op.slice (B := 32) Try.underlying42 (by kernel_rfl) (by kernel_rfl) (Ok.Op.struct (K := (Kd.pair k24 k24)) (f := fun x : S46 => (x.f0, x.f1)) (fun v : S24 × S24 => (⟨v.1, v.2⟩ : S46)) Try.underlying46 (by kernel_rfl) (fun _ => rfl) (Ok.OpF.cons rfl (by kernel_rfl) rfl (Ok.Op.struct (K := (Kd.pair (Kd.int .i64) (Kd.int .i64))) (f := fun x : S24 => (x.f0, x.f1)) (fun v : Int × Int => (⟨v.1, v.2⟩ : S24)) Try.underlying24 (by kernel_rfl) (fun _ => rfl) (Ok.OpF.cons rfl (by kernel_rfl) rfl (Ok.Op.int Try.underlying3) (Ok.OpF.one rfl (by kernel_rfl) (Ok.Op.int Try.underlying2)))) (Ok.OpF.one rfl (by kernel_rfl) (Ok.Op.struct (K := (Kd.pair (Kd.int .i64) (Kd.int .i64))) (f := fun x : S24 => (x.f0, x.f1)) (fun v : Int × Int => (⟨v.1, v.2⟩ : S24)) Try.underlying24 (by kernel_rfl) (fun _ => rfl) (Ok.OpF.cons rfl (by kernel_rfl) rfl (Ok.Op.int Try.underlying3) (Ok.OpF.one rfl (by kernel_rfl) (Ok.Op.int Try.underlying2)))))))) H enc W 0 (fun _ => true) true fuel0 _ _ hf0 (Ok.weights_each (j := 0) rfl rfl hwt)
 obtain ⟨A'0, c'0, hcs0, hc0, hr0⟩ := hK0
 have hcs'0 : [Value.slice A0 len0 c0] = [.slice A'0 l0.length c'0] := hcs0
 simp only [List.cons.injEq, Value.slice.injEq, and_true] at hcs'0
 obtain ⟨rfl, rfl, rfl⟩ := hcs'0
 clear hA0 hval0 hsz0 hsz hwt
 obtain ⟨k, hpure⟩ := G.dictWalks l0 ok0
 refine (tallowlaw09_DictWalks.calls k A0 c0 l0 true W hr0 hc0 hpure).mono fun e W' ⟨he, bel⟩ => ?_
 subst he
 exact ⟨_, rfl, _, _, _, [], _, [], hW', trodAll_mk1 (shut_bool Try.underlying4 _), (trodAll_cons_mk (Below.trod laidOut (by kernel_rfl) (of_decide_eq_true (by kernel_rfl)) k0 bel lt0) trodAll_mk0), rfl, bel.frame _, fun h => by cases h⟩
theorem over : Rows.dictWalksRow.holds Try.pinned (OpenSpec.ofChange Rows.dictWalksSpec) :=
 OpenClaim.holds_of_wide 8 Try.f8 rfl rfl rfl rfl rfl rfl rfl ⟨rfl, rfl, rfl, rfl, rfl⟩ rfl rfl rfl rfl rfl (by kernel_rfl) Try.func8 (by kernel_rfl)
  (of_decide_eq_true (by kernel_rfl)) (by unfold Func.isWrapper; first | (rw [if_pos (by decide +kernel)]; kernel_rfl) | (rw [if_neg (by decide +kernel)]; exact ⟨rfl, rfl⟩))
  (fun os started H enc _ => lifted os started H enc)
theorem proved : Rows.DictWalksSaid := over
#print axioms proved
end Go.Proofs.YtadhkfklkbdabaaR.dictWalks
namespace Go.Proofs.YtadhkfklkbdabaaR
theorem dictWalks_holds : Rows.DictWalksSaid := dictWalks.proved
end Go.Proofs.YtadhkfklkbdabaaR
end
