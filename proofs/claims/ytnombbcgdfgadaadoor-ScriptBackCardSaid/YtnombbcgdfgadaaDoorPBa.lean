import Derived.Test.YtnombbcgdfgadaaDoorRows
import Derived.Test.YtnombbcgdfgadaaDoorCards
import Derived.Test.YtnombbcgdfgadaaDoorTie
import Derived.Test.YtnombbcgdfgadaaDoorPBaK
import Derived.Test.YtnombbcgdfgadaaDoorPBaOk
import Derived.Test.YtnombbcgdfgadaaDoorPBaSB
import Derived.LaidMore
import Derived.Lay
import Derived.MakeChecks
import Derived.SevenTiedAt
import Derived.Stop.Joined
import Derived.WalkKit
import Derived.ProofKit
import Derived.OpenShut
import Derived.ShutString
import Derived.ChangeOld
import Derived.Below
import Derived.SizedLaws
import Derived.Laws.IdiomArrays
set_option linter.unusedVariables false
set_option linter.unusedSimpArgs false
section
namespace Go.Proofs.YtnombbcgdfgadaaDoor.scriptBack
open Go.ChangeShapes Go.WideShapes Go.ChangeAt Go.RowKit
open Go.Proofs.YtnombbcgdfgadaaDoor.G Go.Proofs.YtnombbcgdfgadaaDoorW.PrintWords
open Go.ChangeMaps (open_string shut_string)
set_option linter.unusedVariables false
theorem laidOut : laidOutB Tryd.prog = true := by kernel_rfl
theorem own : ownKnob Tryd.prog.godebug = none := by kernel_rfl
set_option maxRecDepth 100000 in
theorem lifted (os : Os) (started : os.Started) (H : Type) (enc : TypeId × Value → H) :
    ReturnsInHanded {} Tryd.checked os 5 .any (fun w args => (Rows.scriptBackSpec.pre enc Tryd.prog Tryd.f5 Rows.scriptBackRow.domain false w args ∧ laidMetH Tryd.prog Rows.scriptBackRow.laid w) ∧ sizedMet enc Tryd.prog Tryd.f5 (OpenSpec.ofChange Rows.scriptBackSpec) false w args)
      (Rows.scriptBackSpec.post enc Tryd.prog Tryd.f5 false true false false) := by
  refine returnsInHanded_of_change_and (C := Tryd.checked) (X := fun w _ => laidMetH Tryd.prog Rows.scriptBackRow.laid w) (fun _ _ _ hh h => h.of_heap hh) own started (by kernel_rfl) Tryd.func5
    (ChangeSpec.witness_shaped (enc := enc) (C := Tryd.checked) (os := os) (X := fun w _ => laidMetH Tryd.prog Rows.scriptBackRow.laid w) false (World.doorLaid Tryd.prog 600 os) #[.agg #[.string ByteArray.empty, .slice none 0 0], .string ByteArray.empty] 8 rfl
      (World.shaped_of_RefB (by kernel_rfl) (by kernel_rfl)) (by kernel_rfl) (by kernel_rfl) (by kernel_rfl) (G.door_met os _)) ?_
  intro W base args ds gs before hval0 hW hcnd hsz0 hL0 _
  have hlaid := G.laid_of hL0
  clear hL0
  have hsz : (DataW.weightsEach Tryd.prog (Tryd.f5.params.toList ++ Rows.scriptBackSpec.plain.varTypes Tryd.prog) (ds ++ gs)).all (· ≤ reachBytes) = true := hsz0
  have hval : ∀ (j : Nat) t v, Tryd.f5.params[j]? = some t → args[j]? = some v → Value.okWide Tryd.prog W .any base t v := hval0
  have hW' := hW
  obtain ⟨p, q, hA0, hV, rfl, hfz, hnd⟩ := hW
  have hA : DataW.TrodAll enc Tryd.prog W 0 (fun _ => true) true Tryd.f5.params.toList args.toList ds p := hA0
  rw [Tryd.params5] at hA hval hsz
  obtain ⟨v0, vs0, d0, ds0, p0, q0, hargs, rfl, rfl, h0, r0⟩ := trodAll_cons hA
  obtain ⟨v1, vs1, d1, ds1, p1, q1, rfl, rfl, rfl, h1, r1⟩ := trodAll_cons r0
  obtain ⟨rfl, rfl, rfl⟩ := trodAll_nil r1
  obtain rfl : args = #[v0, v1] := by cases args; simp_all
  obtain ⟨rfl, rfl⟩ := trodVars_none hV
  obtain ⟨a1, rfl, rfl, rfl, y1⟩ := open_string Tryd.underlying9 (hval 1 9 v1 rfl rfl) h1
  have w1 : a1.size ≤ 140737488351232 := by
    have z := sized_string hsz (j := 1) (t := 9) rfl rfl
    rw [Array.length_toList] at z
    exact z
  have hwt := Ok.sized_all hsz
  have k0 := h0
  have lt0 : ∀ x ∈ p0, x.block < W.heap.size := by obtain ⟨m, hm⟩ := k0; exact DataW.trod_lt m _ _ _ hm
  obtain ⟨cs0, rfl, _⟩ := okWide_struct Tryd.underlying24 (hval 0 24 v0 rfl rfl)
  obtain ⟨fuel0, hf0⟩ := h0
  obtain ⟨v'0, hK0, ok0, hm0⟩ := (Ok.Op.struct (K := (Kd.pair Kd.string (Kd.slice 44 k44))) (f := fun x => x) (fun v => v) Tryd.underlying24 (by kernel_rfl) (fun _ => rfl) (Ok.OpF.cons rfl (by kernel_rfl) rfl (Ok.Op.string Tryd.underlying9) (Ok.OpF.one rfl (by kernel_rfl) (Ok.Op.slice (B := 16) Tryd.underlying22 (by kernel_rfl) (by kernel_rfl) (Ok.Op.struct (K := (Kd.pair (Kd.int .i64) (Kd.int .i64))) (f := fun x : S44 => (x.f0, x.f1)) (fun v : Int × Int => (⟨v.1, v.2⟩ : S44)) Tryd.underlying44 (by kernel_rfl) (fun _ => rfl) (Ok.OpF.cons rfl (by kernel_rfl) rfl (Ok.Op.int Tryd.underlying3) (Ok.OpF.one rfl (by kernel_rfl) (Ok.Op.int Tryd.underlying3)))))))) H enc W 0 (fun _ => true) true fuel0 _ _ hf0 (Ok.weights_each (j := 0) rfl rfl hwt)
  obtain ⟨a0_0, l0_1⟩ := v'0
  obtain ⟨_, _, eg0_0, g0_0a, g0_0b⟩ := hK0
  have q0_0 := g0_0a
  obtain ⟨A0_1, c0_1, q0_1, hc0_1, hr0_1⟩ := g0_0b
  obtain rfl : cs0 = #[.string a0_0, .slice A0_1 l0_1.length c0_1] := by
    try subst eg0_0
    try subst q0_0
    try subst q0_1
    apply Array.ext'
    exact eg0_0
  clear hA0 hval0 hsz0 hsz
  refine (G.back_any a0_0 A0_1 c0_1 l0_1 a1 W hlaid hr0_1 hc0_1 (by have := ok0.1; omega) (by have h : l0_1.length * 16 ≤ 140737488351232 := ok0.2.1; omega) w1).mono fun e W' ⟨he, bel⟩ => ?_
  subst he
  exact ⟨_, rfl, _, _, _, [], _, [], hW', trodAll_mk1 (shut_bool Tryd.underlying4 _), (trodAll_cons_mk (Below.trod laidOut (by kernel_rfl) (of_decide_eq_true (by kernel_rfl)) k0 bel lt0) (trodAll_cons_mk (shut_string Tryd.underlying9 y1) trodAll_mk0)), rfl, bel.frame _, fun h => by cases h⟩
theorem over : Rows.scriptBackRow.holds Tryd.pinned (OpenSpec.ofChange Rows.scriptBackSpec) :=
  OpenClaim.holds_of_wide 5 Tryd.f5 rfl rfl rfl rfl rfl rfl rfl ⟨rfl, rfl, rfl, rfl, rfl⟩ rfl rfl rfl rfl rfl (by kernel_rfl) Tryd.func5 (by kernel_rfl)
    (of_decide_eq_true (by kernel_rfl)) (by unfold Func.isWrapper; first | (rw [if_pos (by decide +kernel)]; kernel_rfl) | (rw [if_neg (by decide +kernel)]; exact ⟨rfl, rfl⟩))
    (fun os started H enc _ => lifted os started H enc)
theorem said : Rows.ScriptBackSaid := over
theorem plain (f : FuncId) (fn : Func) (hf : Tryd.pinned.checked.prog.funcNamed "tallow/tallowlaw33.ScriptBack" = some f) (hfn : Tryd.pinned.checked.prog.funcs[f]? = some fn) :
    true = Tryd.pinned.checked.prog.looks [] ∧ ∀ (j : Nat) t, fn.params[j]? = some t → Tryd.pinned.checked.prog.wantsStandIn t = false := by
  obtain rfl : f = 5 := Option.some.inj ((show Tryd.prog.funcNamed "tallow/tallowlaw33.ScriptBack" = some 5 by kernel_rfl).symm.trans hf) |>.symm
  obtain rfl : fn = Tryd.f5 := (Option.some.inj (Tryd.func5.symm.trans hfn)).symm
  refine ⟨by kernel_rfl, fun j t ht => ?_⟩
  rw [Tryd.params5] at ht
  have hm : t ∈ ([24, 9] : List Nat) := by simpa using Array.mem_of_getElem? ht
  have hall : (([24, 9] : List Nat).all fun u => !Tryd.prog.wantsStandIn u) = true := by kernel_rfl
  exact (show Tryd.prog.wantsStandIn t = false by simpa using List.all_eq_true.1 hall t hm)
theorem card : Rows.ScriptBackCardSaid :=
  Claim7.holds_tied_plain_at .later [] _ _ _ _ said (fun _ h => by cases h) (by kernel_rfl) (fun _ h => by cases h) scriptBack_row_tie rfl ⟨rfl, rfl⟩ (by kernel_rfl) rfl plain (by kernel_rfl)
#print axioms card
end Go.Proofs.YtnombbcgdfgadaaDoor.scriptBack
namespace Go.Proofs.YtnombbcgdfgadaaDoor
theorem scriptBack_card : Rows.ScriptBackCardSaid := scriptBack.card
end Go.Proofs.YtnombbcgdfgadaaDoor
end
