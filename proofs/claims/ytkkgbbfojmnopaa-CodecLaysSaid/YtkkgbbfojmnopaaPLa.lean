import Derived.Test.YtkkgbbfojmnopaaRows
import Derived.Test.YtkkgbbfojmnopaaPLaGxF3
import Derived.Test.YtkkgbbfojmnopaaPLaOk
import Derived.Test.YtkkgbbfojmnopaaPLaPT
import Derived.WalkKit
import Derived.ProofKit
import Derived.OpenShut
import Derived.ShutString
import Derived.ChangeOld
import Derived.Below
import Derived.SizedLaws
import Derived.Laws.IdiomArrays
set_option linter.unusedVariables false
set_option linter.unusedSimpArgs false
section
namespace Go.Proofs.Ytkkgbbfojmnopaa.codecLays
open Go.ChangeShapes Go.WideShapes Go.ChangeAt Go.RowKit Go.Proofs.Ytkkgbbfojmnopaa.G Go.Proofs.YtkkgbbfojmnopaaW.PrintWords
open Go.ChangeMaps (open_string shut_string)
theorem own : ownKnob Try.prog.godebug = none := by kernel_rfl
theorem laidOut : laidOutB Try.prog = true := by kernel_rfl
set_option maxRecDepth 100000 in
theorem lifted (os : Os) (started : os.Started) (H : Type) (enc : TypeId × Value → H) :
  ReturnsInHanded {} Try.checked os 3 .any (Rows.codecLaysSpec.pre6 enc Try.prog Try.f3 Rows.codecLaysRow.domain false) (Rows.codecLaysSpec.post enc Try.prog Try.f3 false true false false) := by
 refine returnsInHanded_of_change_sized (C := Try.checked) own started (by kernel_rfl) Try.func3
  (ChangeSpec.witness6 (enc := enc) (C := Try.checked) false ⟨#[], #[.agg #[.slice none 0 0]], []⟩ 8 (by kernel_rfl) (by kernel_rfl) (by kernel_rfl) (by kernel_rfl)) ?_
 intro W base args ds gs before hval0 hW hcnd hsz0 _
 have hsz : (DataW.weightsEach Try.prog (Try.f3.params.toList ++ Rows.codecLaysSpec.plain.varTypes Try.prog) (ds ++ gs)).all (· ≤ reachBytes) = true := hsz0
 have hval : ∀ (j : Nat) t v, Try.f3.params[j]? = some t → args[j]? = some v → Value.okWide Try.prog W .any base t v := hval0
 have hW' := hW
 obtain ⟨p, q, hA0, hV, rfl, hfz, hnd⟩ := hW
 have hA : DataW.TrodAll enc Try.prog W 0 (fun _ => true) true Try.f3.params.toList args.toList ds p := hA0
 rw [Try.params3] at hA hval hsz
 obtain ⟨v0, vs0, d0, ds0, p0, q0, hargs, rfl, rfl, h0, r0⟩ := trodAll_cons hA
 obtain ⟨rfl, rfl, rfl⟩ := trodAll_nil r0
 obtain rfl : args = #[v0] := by cases args; simp_all
 obtain ⟨rfl, rfl⟩ := trodVars_none hV
 have hwt := Ok.sized_all hsz
 have k0 := h0
 have lt0 : ∀ x ∈ p0, x.block < W.heap.size := by obtain ⟨m, hm⟩ := k0; exact DataW.trod_lt m _ _ _ hm
 obtain ⟨cs0, rfl, _⟩ := okWide_struct Try.underlying24 (hval 0 24 v0 rfl rfl)
 obtain ⟨fuel0, hf0⟩ := h0
 obtain ⟨v'0, hK0, ok0, hm0⟩ := (Ok.Op.struct (K := (Kd.slice 47 k47)) (f := fun x => x) (fun v => v) Try.underlying24 (by kernel_rfl) (fun _ => rfl) (Ok.OpF.one rfl (by kernel_rfl) (Ok.Op.slice (B := 88) Try.underlying22 (by kernel_rfl) (by kernel_rfl) (Ok.Op.struct (K := (Kd.pair (Kd.int .i64) (Kd.pair (Kd.int .i64) (Kd.pair (Kd.slice 50 k50) (Kd.pair (Kd.slice 42 k42) (Kd.slice 52 k52)))))) (f := fun x : S47 => (x.f0, x.f1, x.f2, x.f3, x.f4)) (fun v : Int × Int × (List S50) × (List S42) × (List S52) => (⟨v.1, v.2.1, v.2.2.1, v.2.2.2.1, v.2.2.2.2⟩ : S47)) Try.underlying47 (by kernel_rfl) (fun _ => rfl) (Ok.OpF.cons rfl (by kernel_rfl) rfl (Ok.Op.int Try.underlying3) (Ok.OpF.cons rfl (by kernel_rfl) rfl (Ok.Op.int Try.underlying3) (Ok.OpF.cons rfl (by kernel_rfl) rfl (Ok.Op.slice (B := 16) Try.underlying43 (by kernel_rfl) (by kernel_rfl) (Ok.Op.struct (K := (Kd.pair Kd.bool (Kd.int .i64))) (f := fun x : S50 => (x.f0, x.f1)) (fun v : Bool × Int => (⟨v.1, v.2⟩ : S50)) Try.underlying50 (by kernel_rfl) (fun _ => rfl) (Ok.OpF.cons rfl (by kernel_rfl) rfl (Ok.Op.bool Try.underlying4) (Ok.OpF.one rfl (by kernel_rfl) (Ok.Op.int Try.underlying3))))) (Ok.OpF.cons rfl (by kernel_rfl) rfl (Ok.Op.slice (B := 32) Try.underlying44 (by kernel_rfl) (by kernel_rfl) (Ok.Op.struct (K := (Kd.pair (Kd.int .i64) (Kd.pair (Kd.int .i64) Kd.string))) (f := fun x : S42 => (x.f0, x.f1, x.f2)) (fun v : Int × Int × ByteArray => (⟨v.1, v.2.1, v.2.2⟩ : S42)) Try.underlying42 (by kernel_rfl) (fun _ => rfl) (Ok.OpF.cons rfl (by kernel_rfl) rfl (Ok.Op.int Try.underlying3) (Ok.OpF.cons rfl (by kernel_rfl) rfl (Ok.Op.int Try.underlying2) (Ok.OpF.one rfl (by kernel_rfl) (Ok.Op.string Try.underlying9)))))) (Ok.OpF.one rfl (by kernel_rfl) (Ok.Op.slice (B := 24) Try.underlying45 (by kernel_rfl) (by kernel_rfl) (Ok.Op.struct (K := (Kd.pair (Kd.int .i64) (Kd.pair (Kd.int .i64) (Kd.int .i64)))) (f := fun x : S52 => (x.f0, x.f1, x.f2)) (fun v : Int × Int × Int => (⟨v.1, v.2.1, v.2.2⟩ : S52)) Try.underlying52 (by kernel_rfl) (fun _ => rfl) (Ok.OpF.cons rfl (by kernel_rfl) rfl (Ok.Op.int Try.underlying3) (Ok.OpF.cons rfl (by kernel_rfl) rfl (Ok.Op.int Try.underlying3) (Ok.OpF.one rfl (by kernel_rfl) (Ok.Op.int Try.underlying3))))))))))))))) H enc W 0 (fun _ => true) true fuel0 _ _ hf0 (Ok.weights_each (j := 0) rfl rfl hwt)
 obtain ⟨l0_0, rfl⟩ : ∃ z, z = v'0 := ⟨_, rfl⟩
 obtain ⟨A0_0, c0_0, q0_0, hc0_0, hr0_0⟩ := hK0
 obtain rfl : cs0 = #[.slice A0_0 l0_0.length c0_0] := by
  try subst q0_0
  apply Array.ext'
  exact q0_0
 clear hA0 hval0 hsz0 hsz hwt
 obtain ⟨k, hpure⟩ := Z.codecLays l0_0 ok0
 refine (tallowlaw21_CodecLays.calls k A0_0 c0_0 l0_0 true W hr0_0 hc0_0 hpure).mono fun e W' ⟨he, bel⟩ => ?_
 subst he
 exact ⟨_, rfl, _, _, _, [], _, [], hW', trodAll_mk1 (shut_bool Try.underlying4 _), (trodAll_cons_mk (Below.trod laidOut (by kernel_rfl) (of_decide_eq_true (by kernel_rfl)) k0 bel lt0) trodAll_mk0), rfl, bel.frame _, fun h => by cases h⟩
theorem over : Rows.codecLaysRow.holds Try.pinned (OpenSpec.ofChange Rows.codecLaysSpec) :=
 OpenClaim.holds_of_wide 3 Try.f3 rfl rfl rfl rfl rfl rfl rfl ⟨rfl, rfl, rfl, rfl, rfl⟩ rfl rfl rfl rfl rfl (by kernel_rfl) Try.func3 (by kernel_rfl)
  (of_decide_eq_true (by kernel_rfl)) (by unfold Func.isWrapper; first | (rw [if_pos (by decide +kernel)]; kernel_rfl) | (rw [if_neg (by decide +kernel)]; exact ⟨rfl, rfl⟩))
  (fun os started H enc _ => lifted os started H enc)
theorem proved : Rows.CodecLaysSaid := over
#print axioms proved
end Go.Proofs.Ytkkgbbfojmnopaa.codecLays
namespace Go.Proofs.Ytkkgbbfojmnopaa
theorem codecLays_holds : Rows.CodecLaysSaid := codecLays.proved
end Go.Proofs.Ytkkgbbfojmnopaa
end
