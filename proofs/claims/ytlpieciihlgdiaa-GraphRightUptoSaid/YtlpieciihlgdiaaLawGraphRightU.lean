/- GraphRight: a graph whose counts are made what leads to its objects is right, and one that is made otherwise is told, alone. Where what it reads is of bulk at most 1048576; no other condition. -/
import Derived.Test.YtlpieciihlgdiaaRows
import Derived.Test.YtlpieciihlgdiaaGxR7
import Derived.Test.YtlpieciihlgdiaaOk
import Derived.Test.YtlpieciihlgdiaaGxR7
import Derived.WalkKit
import Derived.ProofKit
import Derived.OpenShut
import Derived.ShutString
import Derived.ChangeOld
import Derived.Below
import Derived.SizedLaws
import Derived.JoinedCond
import Derived.Deep.CondSized
namespace Go.Proofs.Ytlpieciihlgdiaa.graphRightUpto
open Go.ChangeShapes Go.WideShapes Go.ChangeAt Go.RowKit Go.Proofs.Ytlpieciihlgdiaa.G Go.Proofs.YtlpieciihlgdiaaW.PrintWords
open Go.ChangeMaps (open_string shut_string)
set_option linter.unusedVariables false
theorem own : ownKnob Try.prog.godebug = none := by kernel_rfl
theorem laidOut : laidOutB Try.prog = true := by kernel_rfl
set_option maxRecDepth 100000 in
theorem lifted (os : Os) (started : os.Started) (H : Type) (enc : TypeId × Value → H) (F : Stop.Interp) :
    ReturnsInHanded {} Try.checked os 7 .any ((Rows.OpenSpec.upto Rows.graphRightSpec).pre6 enc Try.prog Try.f7 Rows.graphRightUptoRow.domain false) (((Rows.OpenSpec.upto Rows.graphRightSpec).at F).post enc Try.prog Try.f7 false true false false) := by
  refine returnsInHanded_of_cond_sized (C := Try.checked) (s := Rows.OpenSpec.upto Rows.graphRightSpec) (k := Rows.uptoSmall) rfl own started (by kernel_rfl) Try.func7
    (OpenSpec.witness (enc := enc) (C := Try.checked) (s := Rows.OpenSpec.upto Rows.graphRightSpec) (k := Rows.uptoSmall) rfl false ⟨#[], #[.agg #[.slice none 0 0], .slice none 0 0, .int .i64 0], []⟩ 8 (by kernel_rfl) (by kernel_rfl) (by kernel_rfl)
      (x := ([.agg [.nil], .nil, .lit (.int .i64 0)], [], [])) (by kernel_rfl) rfl (by kernel_rfl)) ?_
  intro W base args ds gs before hval0 hW hcnd hbk hsz0 _
  have hsz : (DataW.weightsEach Try.prog (Try.f7.params.toList ++ (Rows.OpenSpec.upto Rows.graphRightSpec).bare.plain.varTypes Try.prog) (ds ++ gs)).all (· ≤ reachBytes) = true := hsz0
  have hval : ∀ (j : Nat) t v, Try.f7.params[j]? = some t → args[j]? = some v → Value.okWide Try.prog W .any base t v := hval0
  have hW' := hW
  obtain ⟨p, q, hA0, hV, rfl, hfz, hnd⟩ := hW
  have hA : DataW.TrodAll enc Try.prog W 0 (fun _ => true) true Try.f7.params.toList args.toList ds p := hA0
  rw [Try.params7] at hA hval hsz
  obtain ⟨v0, vs0, d0, ds0, p0, q0, hargs, rfl, rfl, h0, r0⟩ := trodAll_cons hA
  obtain ⟨v1, vs1, d1, ds1, p1, q1, rfl, rfl, rfl, h1, r1⟩ := trodAll_cons r0
  obtain ⟨v2, vs2, d2, ds2, p2, q2, rfl, rfl, rfl, h2, r2⟩ := trodAll_cons r1
  obtain ⟨rfl, rfl, rfl⟩ := trodAll_nil r2
  obtain rfl : args = #[v0, v1, v2] := by cases args; simp_all
  obtain ⟨rfl, rfl⟩ := trodVars_none hV
  have hwt := Ok.sized_all hsz
  have k0 := h0
  have lt0 : ∀ x ∈ p0, x.block < W.heap.size := by obtain ⟨m, hm⟩ := k0; exact DataW.trod_lt m _ _ _ hm
  obtain ⟨cs0, rfl, _⟩ := okWide_struct Try.underlying24 (hval 0 24 v0 rfl rfl)
  obtain ⟨fuel0, hf0⟩ := h0
  obtain ⟨v'0, hK0, ok0, hm0⟩ := (Ok.Op.struct (K := (Kd.slice 36 k36)) (f := fun x => x) (fun v => v) Try.underlying24 (by kernel_rfl) (fun _ => rfl) (Ok.OpF.one rfl (by kernel_rfl) (Ok.Op.slice (B := 64) Try.underlying22 (by kernel_rfl) (by kernel_rfl) (Ok.Op.struct (K := (Kd.pair (Kd.int .i64) (Kd.pair (Kd.int .i64) (Kd.pair (Kd.slice 40 k40) (Kd.pair Kd.string (Kd.int .i64)))))) (f := fun x : S36 => (x.f0, x.f1, x.f2, x.f3, x.f4)) (fun v : Int × Int × (List S40) × ByteArray × Int => (⟨v.1, v.2.1, v.2.2.1, v.2.2.2.1, v.2.2.2.2⟩ : S36)) Try.underlying36 (by kernel_rfl) (fun _ => rfl) (Ok.OpF.cons rfl (by kernel_rfl) rfl (Ok.Op.int Try.underlying3) (Ok.OpF.cons rfl (by kernel_rfl) rfl (Ok.Op.int Try.underlying3) (Ok.OpF.cons rfl (by kernel_rfl) rfl (Ok.Op.slice (B := 16) Try.underlying27 (by kernel_rfl) (by kernel_rfl) (Ok.Op.struct (K := (Kd.pair (Kd.int .i64) (Kd.int .i64))) (f := fun x : S40 => (x.f0, x.f1)) (fun v : Int × Int => (⟨v.1, v.2⟩ : S40)) Try.underlying40 (by kernel_rfl) (fun _ => rfl) (Ok.OpF.cons rfl (by kernel_rfl) rfl (Ok.Op.int Try.underlying3) (Ok.OpF.one rfl (by kernel_rfl) (Ok.Op.int Try.underlying2))))) (Ok.OpF.cons rfl (by kernel_rfl) rfl (Ok.Op.string Try.underlying9) (Ok.OpF.one rfl (by kernel_rfl) (Ok.Op.int Try.underlying3)))))))))) H enc W 0 (fun _ => true) true fuel0 _ _ hf0 (Ok.weights_each (j := 0) rfl rfl hwt)
  obtain ⟨l0_0, rfl⟩ : ∃ z, z = v'0 := ⟨_, rfl⟩
  obtain ⟨A0_0, c0_0, q0_0, hc0_0, hr0_0⟩ := hK0
  obtain rfl : cs0 = #[.slice A0_0 l0_0.length c0_0] := by
    try subst q0_0
    apply Array.ext'
    exact q0_0
  have k1 := h1
  have lt1 : ∀ x ∈ p1, x.block < W.heap.size := by obtain ⟨m, hm⟩ := k1; exact DataW.trod_lt m _ _ _ hm
  obtain ⟨A1, len1, c1, rfl⟩ := okWide_slice Try.underlying27 (hval 1 27 v1 rfl rfl)
  obtain ⟨fuel1, hf1⟩ := h1
  obtain ⟨l1, hK1, ok1, hm1⟩ := (Ok.Op.slice (B := 16) Try.underlying27 (by kernel_rfl) (by kernel_rfl) (Ok.Op.struct (K := (Kd.pair (Kd.int .i64) (Kd.int .i64))) (f := fun x : S40 => (x.f0, x.f1)) (fun v : Int × Int => (⟨v.1, v.2⟩ : S40)) Try.underlying40 (by kernel_rfl) (fun _ => rfl) (Ok.OpF.cons rfl (by kernel_rfl) rfl (Ok.Op.int Try.underlying3) (Ok.OpF.one rfl (by kernel_rfl) (Ok.Op.int Try.underlying2))))) H enc W 0 (fun _ => true) true fuel1 _ _ hf1 (Ok.weights_each (j := 1) rfl rfl hwt)
  obtain ⟨A'1, c'1, hcs1, hc1, hr1⟩ := hK1
  have hcs'1 : [Value.slice A1 len1 c1] = [.slice A'1 l1.length c'1] := hcs1
  simp only [List.cons.injEq, Value.slice.injEq, and_true] at hcs'1
  obtain ⟨rfl, rfl, rfl⟩ := hcs'1
  have k2 := h2
  have lt2 : ∀ x ∈ p2, x.block < W.heap.size := by obtain ⟨m, hm⟩ := k2; exact DataW.trod_lt m _ _ _ hm
  obtain ⟨a2, rfl, rfl, rfl, ok2⟩ := open_int Try.underlying3 (hval 2 3 v2 rfl rfl) h2
  have hm2 : 1 ≤ Rows.uptoBulk (DataW.lit (H := H) (.int .i64 a2)) := by simp [Rows.uptoBulk]
  have hbk' := of_decide_eq_true hbk
  simp only [List.append_nil, Rows.uptoBulkAll] at hbk'
  have hb0 : (((l0_0.map fun y1 => ((1 + (1 + (((y1.f2.map fun y2 => ((1 + 1) + 1)).sum + 1) + ((y1.f3.size + 1) + 1)))) + 1)).sum + 1) + 1) ≤ Rows.uptoBulk d0 := hm0
  have hb1 : ((l1.map fun y3 => ((1 + 1) + 1)).sum + 1) ≤ Rows.uptoBulk d1 := hm1
  have hb2 : 1 ≤ Rows.uptoBulk _ := hm2
  clear hA0 hval0 hsz0 hsz hwt
  obtain ⟨k, hpure⟩ := G.right_all l0_0 l1 a2 ok0 ok1 ok2 (by omega)
  refine (tallowlaw10_GraphRight.calls k A0_0 c0_0 l0_0 A1 c1 l1 a2 true W hr0_0 hc0_0 hr1 hc1 hpure).mono fun e W' ⟨he, bel⟩ => ?_
  subst he
  exact ⟨_, rfl, _, _, _, [], _, [], hW', trodAll_mk1 (shut_bool Try.underlying4 _), (trodAll_cons_mk (Below.trod laidOut (by kernel_rfl) (of_decide_eq_true (by kernel_rfl)) k0 bel lt0) (trodAll_cons_mk (Below.trod laidOut (by kernel_rfl) (of_decide_eq_true (by kernel_rfl)) k1 bel lt1) (trodAll_cons_mk (Below.trod laidOut (by kernel_rfl) (of_decide_eq_true (by kernel_rfl)) k2 bel lt2) trodAll_mk0))), rfl, bel.frame _, fun h => by cases h⟩
theorem over : Rows.graphRightUptoRow.holds Try.pinned (Rows.OpenSpec.upto Rows.graphRightSpec) :=
  OpenClaim.holds_of_cond 7 Try.f7 rfl rfl rfl rfl rfl rfl rfl ⟨rfl, rfl, rfl, rfl, rfl⟩ rfl rfl rfl rfl rfl (by kernel_rfl) Try.func7 (by kernel_rfl)
    (of_decide_eq_true (by kernel_rfl)) (by unfold Func.isWrapper; first | (rw [if_pos (by decide +kernel)]; kernel_rfl) | (rw [if_neg (by decide +kernel)]; exact ⟨rfl, rfl⟩))
    (fun os started H enc _ F => lifted os started H enc F)
theorem proved : Rows.GraphRightUptoSaid := over
#print axioms proved
end Go.Proofs.Ytlpieciihlgdiaa.graphRightUpto
namespace Go.Proofs.Ytlpieciihlgdiaa
/-- The row, under a short name, for the claim. -/
theorem graphRightUpto_holds : Rows.GraphRightUptoSaid := graphRightUpto.proved
end Go.Proofs.Ytlpieciihlgdiaa
