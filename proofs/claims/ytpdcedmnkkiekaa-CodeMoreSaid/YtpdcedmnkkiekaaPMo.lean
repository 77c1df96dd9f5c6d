import Derived.Test.YtpdcedmnkkiekaaRows
import Derived.Test.YtpdcedmnkkiekaaPMoGxF7
import Derived.Test.YtpdcedmnkkiekaaPMoOk
import Derived.Test.YtpdcedmnkkiekaaPMoPCM
import Derived.WalkKit
import Derived.ProofKit
import Derived.OpenShut
import Derived.ShutString
import Derived.ChangeOld
import Derived.Below
import Derived.SizedLaws
import Derived.Laws.IdiomArrays
set_option linter.unusedVariables false
set_option linter.unusedSimpArgs false
section
namespace Go.Proofs.Ytpdcedmnkkiekaa.codeMore
open Go.ChangeShapes Go.WideShapes Go.ChangeAt Go.RowKit Go.Proofs.Ytpdcedmnkkiekaa.G Go.Proofs.YtpdcedmnkkiekaaW.PrintWords
open Go.ChangeMaps (open_string shut_string)
set_option linter.unusedVariables false
theorem own : ownKnob Try.prog.godebug = none := by kernel_rfl
theorem laidOut : laidOutB Try.prog = true := by kernel_rfl
set_option maxRecDepth 100000 in
theorem lifted (os : Os) (started : os.Started) (H : Type) (enc : TypeId × Value → H) :
    ReturnsInHanded {} Try.checked os 7 .any (Rows.codeMoreSpec.pre6 enc Try.prog Try.f7 Rows.codeMoreRow.domain false) (Rows.codeMoreSpec.post enc Try.prog Try.f7 false true false false) := by
  refine returnsInHanded_of_change_sized (C := Try.checked) own started (by kernel_rfl) Try.func7
    (ChangeSpec.witness6 (enc := enc) (C := Try.checked) false ⟨#[], #[.agg #[.slice none 0 0], .int .u8 0], []⟩ 8 (by kernel_rfl) (by kernel_rfl) (by kernel_rfl) (by kernel_rfl)) ?_
  intro W base args ds gs before hval0 hW hcnd hsz0 _
  have hsz : (DataW.weightsEach Try.prog (Try.f7.params.toList ++ Rows.codeMoreSpec.plain.varTypes Try.prog) (ds ++ gs)).all (· ≤ reachBytes) = true := hsz0
  have hval : ∀ (j : Nat) t v, Try.f7.params[j]? = some t → args[j]? = some v → Value.okWide Try.prog W .any base t v := hval0
  have hW' := hW
  obtain ⟨p, q, hA0, hV, rfl, hfz, hnd⟩ := hW
  have hA : DataW.TrodAll enc Try.prog W 0 (fun _ => true) true Try.f7.params.toList args.toList ds p := hA0
  rw [Try.params7] at hA hval hsz
  obtain ⟨v0, vs0, d0, ds0, p0, q0, hargs, rfl, rfl, h0, r0⟩ := trodAll_cons hA
  obtain ⟨v1, vs1, d1, ds1, p1, q1, rfl, rfl, rfl, h1, r1⟩ := trodAll_cons r0
  obtain ⟨rfl, rfl, rfl⟩ := trodAll_nil r1
  obtain rfl : args = #[v0, v1] := by cases args; simp_all
  obtain ⟨rfl, rfl⟩ := trodVars_none hV
  have hwt := Ok.sized_all hsz
  have k0 := h0
  have lt0 : ∀ x ∈ p0, x.block < W.heap.size := by obtain ⟨m, hm⟩ := k0; exact DataW.trod_lt m _ _ _ hm
  obtain ⟨cs0, rfl, _⟩ := okWide_struct Try.underlying28 (hval 0 28 v0 rfl rfl)
  obtain ⟨fuel0, hf0⟩ := h0
  obtain ⟨v'0, hK0, ok0, hm0⟩ := (Ok.Op.struct (K := (Kd.slice 41 k41)) (f := fun x => x) (fun v => v) Try.underlying28 (by kernel_rfl) (fun _ => rfl) (Ok.OpF.one rfl (by kernel_rfl) (Ok.Op.slice (B := 88) Try.underlying26 (by kernel_rfl) (by kernel_rfl) (Ok.Op.struct (K := (Kd.pair (Kd.int .i64) (Kd.pair (Kd.int .i64) (Kd.pair (Kd.slice 48 k48) (Kd.pair (Kd.slice 46 k46) (Kd.slice 33 k33)))))) (f := fun x : S41 => (x.f0, x.f1, x.f2, x.f3, x.f4)) (fun v : Int × Int × (List S48) × (List S46) × (List S33) => (⟨v.1, v.2.1, v.2.2.1, v.2.2.2.1, v.2.2.2.2⟩ : S41)) Try.underlying41 (by kernel_rfl) (fun _ => rfl) (Ok.OpF.cons rfl (by kernel_rfl) rfl (Ok.Op.int Try.underlying3) (Ok.OpF.cons rfl (by kernel_rfl) rfl (Ok.Op.int Try.underlying3) (Ok.OpF.cons rfl (by kernel_rfl) rfl (Ok.Op.slice (B := 16) Try.underlying37 (by kernel_rfl) (by kernel_rfl) (Ok.Op.struct (K := (Kd.pair Kd.bool (Kd.int .i64))) (f := fun x : S48 => (x.f0, x.f1)) (fun v : Bool × Int => (⟨v.1, v.2⟩ : S48)) Try.underlying48 (by kernel_rfl) (fun _ => rfl) (Ok.OpF.cons rfl (by kernel_rfl) rfl (Ok.Op.bool Try.underlying4) (Ok.OpF.one rfl (by kernel_rfl) (Ok.Op.int Try.underlying3))))) (Ok.OpF.cons rfl (by kernel_rfl) rfl (Ok.Op.slice (B := 32) Try.underlying38 (by kernel_rfl) (by kernel_rfl) (Ok.Op.struct (K := (Kd.pair (Kd.int .i64) (Kd.pair (Kd.int .i64) Kd.string))) (f := fun x : S46 => (x.f0, x.f1, x.f2)) (fun v : Int × Int × ByteArray => (⟨v.1, v.2.1, v.2.2⟩ : S46)) Try.underlying46 (by kernel_rfl) (fun _ => rfl) (Ok.OpF.cons rfl (by kernel_rfl) rfl (Ok.Op.int Try.underlying3) (Ok.OpF.cons rfl (by kernel_rfl) rfl (Ok.Op.int Try.underlying2) (Ok.OpF.one rfl (by kernel_rfl) (Ok.Op.string Try.underlying9)))))) (Ok.OpF.one rfl (by kernel_rfl) (Ok.Op.slice (B := 24) Try.underlying39 (by kernel_rfl) (by kernel_rfl) (Ok.Op.struct (K := (Kd.pair (Kd.int .i64) (Kd.pair (Kd.int .i64) (Kd.int .i64)))) (f := fun x : S33 => (x.f0, x.f1, x.f2)) (fun v : Int × Int × Int => (⟨v.1, v.2.1, v.2.2⟩ : S33)) Try.underlying33 (by kernel_rfl) (fun _ => rfl) (Ok.OpF.cons rfl (by kernel_rfl) rfl (Ok.Op.int Try.underlying3) (Ok.OpF.cons rfl (by kernel_rfl) rfl (Ok.Op.int Try.underlying3) (Ok.OpF.one rfl (by kernel_rfl) (Ok.Op.int Try.underlying3))))))))))))))) H enc W 0 (fun _ => true) true fuel0 _ _ hf0 (Ok.weights_each (j := 0) rfl rfl hwt)
  obtain ⟨l0_0, rfl⟩ : ∃ z, z = v'0 := ⟨_, rfl⟩
  obtain ⟨A0_0, c0_0, q0_0, hc0_0, hr0_0⟩ := hK0
  obtain rfl : cs0 = #[.slice A0_0 l0_0.length c0_0] := by
    try subst q0_0
    apply Array.ext'
    exact q0_0
  have k1 := h1
  have lt1 : ∀ x ∈ p1, x.block < W.heap.size := by obtain ⟨m, hm⟩ := k1; exact DataW.trod_lt m _ _ _ hm
  obtain ⟨a1, rfl, rfl, rfl, ok1⟩ := open_int Try.underlying5 (hval 1 5 v1 rfl rfl) h1
  clear hA0 hval0 hsz0 hsz hwt
  obtain ⟨k, hpure⟩ := Z.codeMore l0_0 a1 ok0 ok1
  refine (tallowlaw20_CodeMore.calls k A0_0 c0_0 l0_0 a1 true W hr0_0 hc0_0 hpure).mono fun e W' ⟨he, bel⟩ => ?_
  subst he
  exact ⟨_, rfl, _, _, _, [], _, [], hW', trodAll_mk1 (shut_bool Try.underlying4 _), (trodAll_cons_mk (Below.trod laidOut (by kernel_rfl) (of_decide_eq_true (by kernel_rfl)) k0 bel lt0) (trodAll_cons_mk (Below.trod laidOut (by kernel_rfl) (of_decide_eq_true (by kernel_rfl)) k1 bel lt1) trodAll_mk0)), rfl, bel.frame _, fun h => by cases h⟩
theorem over : Rows.codeMoreRow.holds Try.pinned (OpenSpec.ofChange Rows.codeMoreSpec) :=
  OpenClaim.holds_of_wide 7 Try.f7 rfl rfl rfl rfl rfl rfl rfl ⟨rfl, rfl, rfl, rfl, rfl⟩ rfl rfl rfl rfl rfl (by kernel_rfl) Try.func7 (by kernel_rfl)
    (of_decide_eq_true (by kernel_rfl)) (by unfold Func.isWrapper; first | (rw [if_pos (by decide +kernel)]; kernel_rfl) | (rw [if_neg (by decide +kernel)]; exact ⟨rfl, rfl⟩))
    (fun os started H enc _ => lifted os started H enc)
theorem proved : Rows.CodeMoreSaid := over
#print axioms proved
end Go.Proofs.Ytpdcedmnkkiekaa.codeMore
namespace Go.Proofs.Ytpdcedmnkkiekaa
theorem codeMore_holds : Rows.CodeMoreSaid := codeMore.proved
end Go.Proofs.Ytpdcedmnkkiekaa
end
