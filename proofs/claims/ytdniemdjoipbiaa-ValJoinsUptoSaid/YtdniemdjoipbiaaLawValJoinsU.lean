/- ValJoins: the objects of two lists, one behind the other, are those of the one, and of the other. Where what it reads is of bulk at most 1048576; no other condition. -/
import Derived.Test.YtdniemdjoipbiaaRows
import Derived.Test.YtdniemdjoipbiaaGx6
import Derived.Test.YtdniemdjoipbiaaOk
import Derived.Test.YtdniemdjoipbiaaPureValJoins
import Derived.WalkKit
import Derived.ProofKit
import Derived.OpenShut
import Derived.ShutString
import Derived.ChangeOld
import Derived.Below
import Derived.SizedLaws
import Derived.JoinedCond
import Derived.Deep.CondSized
namespace Go.Proofs.Ytdniemdjoipbiaa.valJoinsUpto
open Go.ChangeShapes Go.WideShapes Go.ChangeAt Go.RowKit Go.Proofs.Ytdniemdjoipbiaa.G Go.Proofs.YtdniemdjoipbiaaW.PrintWords
open Go.ChangeMaps (open_string shut_string)
set_option linter.unusedVariables false
theorem own : ownKnob Try.prog.godebug = none := by kernel_rfl
theorem laidOut : laidOutB Try.prog = true := by kernel_rfl
set_option maxRecDepth 100000 in
theorem lifted (os : Os) (started : os.Started) (H : Type) (enc : TypeId × Value → H) (F : Stop.Interp) :
    ReturnsInHanded {} Try.checked os 8 .any ((Rows.OpenSpec.upto Rows.valJoinsSpec).pre6 enc Try.prog Try.f8 Rows.valJoinsUptoRow.domain false) (((Rows.OpenSpec.upto Rows.valJoinsSpec).at F).post enc Try.prog Try.f8 false true false false) := by
  refine returnsInHanded_of_cond_sized (C := Try.checked) (s := Rows.OpenSpec.upto Rows.valJoinsSpec) (k := Rows.uptoSmall) rfl own started (by kernel_rfl) Try.func8
    (OpenSpec.witness (enc := enc) (C := Try.checked) (s := Rows.OpenSpec.upto Rows.valJoinsSpec) (k := Rows.uptoSmall) rfl false ⟨#[], #[.slice none 0 0, .slice none 0 0], []⟩ 8 (by kernel_rfl) (by kernel_rfl) (by kernel_rfl)
      (x := ([.nil, .nil], [], [])) (by kernel_rfl) rfl (by kernel_rfl)) ?_
  intro W base args ds gs before hval0 hW hcnd hbk hsz0 _
  have hsz : (DataW.weightsEach Try.prog (Try.f8.params.toList ++ (Rows.OpenSpec.upto Rows.valJoinsSpec).bare.plain.varTypes Try.prog) (ds ++ gs)).all (· ≤ reachBytes) = true := hsz0
  have hval : ∀ (j : Nat) t v, Try.f8.params[j]? = some t → args[j]? = some v → Value.okWide Try.prog W .any base t v := hval0
  have hW' := hW
  obtain ⟨p, q, hA0, hV, rfl, hfz, hnd⟩ := hW
  have hA : DataW.TrodAll enc Try.prog W 0 (fun _ => true) true Try.f8.params.toList args.toList ds p := hA0
  rw [Try.params8] at hA hval hsz
  obtain ⟨v0, vs0, d0, ds0, p0, q0, hargs, rfl, rfl, h0, r0⟩ := trodAll_cons hA
  obtain ⟨v1, vs1, d1, ds1, p1, q1, rfl, rfl, rfl, h1, r1⟩ := trodAll_cons r0
  obtain ⟨rfl, rfl, rfl⟩ := trodAll_nil r1
  obtain rfl : args = #[v0, v1] := by cases args; simp_all
  obtain ⟨rfl, rfl⟩ := trodVars_none hV
  have hwt := Ok.sized_all hsz
  have k0 := h0
  have lt0 : ∀ x ∈ p0, x.block < W.heap.size := by obtain ⟨m, hm⟩ := k0; exact DataW.trod_lt m _ _ _ hm
  obtain ⟨A0, len0, c0, rfl⟩ := okWide_slice Try.underlying29 (hval 0 29 v0 rfl rfl)
  obtain ⟨fuel0, hf0⟩ := h0
  obtain ⟨l0, hK0, ok0, hm0⟩ := (Ok.Op.slice (B := 16) Try.underlying29 (by kernel_rfl) (by kernel_rfl) (Ok.Op.struct (K := (Kd.pair (Kd.int .i64) (Kd.int .i64))) (f := fun x : S23 => (x.f0, x.f1)) (fun v : Int × Int => (⟨v.1, v.2⟩ : S23)) Try.underlying23 (by kernel_rfl) (fun _ => rfl) (Ok.OpF.cons rfl (by kernel_rfl) rfl (Ok.Op.int Try.underlying3) (Ok.OpF.one rfl (by kernel_rfl) (Ok.Op.int Try.underlying2))))) H enc W 0 (fun _ => true) true fuel0 _ _ hf0 (Ok.weights_each (j := 0) rfl rfl hwt)
  obtain ⟨A'0, c'0, hcs0, hc0, hr0⟩ := hK0
  have hcs'0 : [Value.slice A0 len0 c0] = [.slice A'0 l0.length c'0] := hcs0
  simp only [List.cons.injEq, Value.slice.injEq, and_true] at hcs'0
  obtain ⟨rfl, rfl, rfl⟩ := hcs'0
  have k1 := h1
  have lt1 : ∀ x ∈ p1, x.block < W.heap.size := by obtain ⟨m, hm⟩ := k1; exact DataW.trod_lt m _ _ _ hm
  obtain ⟨A1, len1, c1, rfl⟩ := okWide_slice Try.underlying29 (hval 1 29 v1 rfl rfl)
  obtain ⟨fuel1, hf1⟩ := h1
  obtain ⟨l1, hK1, ok1, hm1⟩ := (Ok.Op.slice (B := 16) Try.underlying29 (by kernel_rfl) (by kernel_rfl) (Ok.Op.struct (K := (Kd.pair (Kd.int .i64) (Kd.int .i64))) (f := fun x : S23 => (x.f0, x.f1)) (fun v : Int × Int => (⟨v.1, v.2⟩ : S23)) Try.underlying23 (by kernel_rfl) (fun _ => rfl) (Ok.OpF.cons rfl (by kernel_rfl) rfl (Ok.Op.int Try.underlying3) (Ok.OpF.one rfl (by kernel_rfl) (Ok.Op.int Try.underlying2))))) H enc W 0 (fun _ => true) true fuel1 _ _ hf1 (Ok.weights_each (j := 1) rfl rfl hwt)
  obtain ⟨A'1, c'1, hcs1, hc1, hr1⟩ := hK1
  have hcs'1 : [Value.slice A1 len1 c1] = [.slice A'1 l1.length c'1] := hcs1
  simp only [List.cons.injEq, Value.slice.injEq, and_true] at hcs'1
  obtain ⟨rfl, rfl, rfl⟩ := hcs'1
  have hbk' := of_decide_eq_true hbk
  simp only [List.append_nil, Rows.uptoBulkAll] at hbk'
  have hb0 : ((l0.map fun y1 => ((1 + 1) + 1)).sum + 1) ≤ Rows.uptoBulk d0 := hm0
  have hb1 : ((l1.map fun y2 => ((1 + 1) + 1)).sum + 1) ≤ Rows.uptoBulk d1 := hm1
  clear hA0 hval0 hsz0 hsz hwt
  obtain ⟨k, hpure⟩ := Pure.ValJoins l0 l1 ok0 ok1 (by omega)
  refine (tallowlaw02_ValJoins.calls k A0 c0 l0 A1 c1 l1 true W hr0 hc0 hr1 hc1 hpure).mono fun e W' ⟨he, bel⟩ => ?_
  subst he
  exact ⟨_, rfl, _, _, _, [], _, [], hW', trodAll_mk1 (shut_bool Try.underlying4 _), (trodAll_cons_mk (Below.trod laidOut (by kernel_rfl) (of_decide_eq_true (by kernel_rfl)) k0 bel lt0) (trodAll_cons_mk (Below.trod laidOut (by kernel_rfl) (of_decide_eq_true (by kernel_rfl)) k1 bel lt1) trodAll_mk0)), rfl, bel.frame _, fun h => by cases h⟩
theorem over : Rows.valJoinsUptoRow.holds Try.pinned (Rows.OpenSpec.upto Rows.valJoinsSpec) :=
  OpenClaim.holds_of_cond 8 Try.f8 rfl rfl rfl rfl rfl rfl rfl ⟨rfl, rfl, rfl, rfl, rfl⟩ rfl rfl rfl rfl rfl (by kernel_rfl) Try.func8 (by kernel_rfl)
    (of_decide_eq_true (by kernel_rfl)) (by unfold Func.isWrapper; first | (rw [if_pos (by decide +kernel)]; kernel_rfl) | (rw [if_neg (by decide +kernel)]; exact ⟨rfl, rfl⟩))
    (fun os started H enc _ F => lifted os started H enc F)
theorem proved : Rows.ValJoinsUptoSaid := over
#print axioms proved
end Go.Proofs.Ytdniemdjoipbiaa.valJoinsUpto
namespace Go.Proofs.Ytdniemdjoipbiaa
/-- The row, under a short name, for the claim. -/
theorem valJoinsUpto_holds : Rows.ValJoinsUptoSaid := valJoinsUpto.proved
end Go.Proofs.Ytdniemdjoipbiaa
