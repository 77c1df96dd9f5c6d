import Derived.LaidMore
import Derived.LaidHandle
import Derived.Stop.Joined
import Derived.Lib.IfaceEq
import Derived.Lib.IndexMore
import Derived.Shelf.Abstract
import Derived.LaidEql
import Derived.Stop.Asserts
import Derived.RowKitTokens
import Derived.Lib.LaidTab
import Derived.Lib.AppendIntMem
import Derived.Stop.LaidErr
import Derived.WalkKit
import Derived.Deep.RegionLaw
import Derived.Deep.Cut
import Derived.WalkSpells
import Derived.Maps.OwnOps
import Derived.Maps.OwnSet
import Derived.Maps.Views
import Derived.Maps.RangeWalk
import Derived.Maps.Own
import Derived.Shelf.Strings.BuilderK
import Derived.Shelf.Strings.BuilderX
import Derived.Test.YtlbaejihlcfpeaaDoorPNmShelf
import Derived.Test.YtlbaejihlcfpeaaDoorProg
import Derived.Test.YtlbaejihlcfpeaaDoorPNmW0
import Derived.Lib.Hide
set_option linter.unusedVariables false
set_option linter.unusedSimpArgs false
section
namespace Go.Proofs.YtlbaejihlcfpeaaDoor.H
open Go.Shelf Go.Extern.Stop Go.Stop Go.Extern Go.RowKit Go.Proofs.YtlbaejihlcfpeaaDoorW.PrintWords Go.Proofs.YtlbaejihlcfpeaaDoorW.PrintLast Go.Proofs.YtlbaejihlcfpeaaDoorW.PrintMore
set_option linter.unusedVariables false
set_option linter.unusedSimpArgs false
theorem law5 : Maps.Keyed Tryd.prog 5 := Maps.int_keyed Tryd.underlying5
abbrev Own (w : World) (b n : Nat) (D : DataW Unit) : Prop := w.ownsMap Tryd.prog 5 (plainElem Tryd.prog 5) b n D
theorem insert_own (w : World) {ops : Array Oper} {rest : List Oper} {o : Oper} {a : Act} {Q : Exit → Act → World → Prop} (hg : o.guard = none) (m x v : Operand) (hop : o.op = Op.insert 92 m x v) (b n : Nat) (D : DataW Unit)
    (hm : a.eval m = .map (some b)) (hown : Own w b n D) (hn : n < 1000) (k c : Int) (hx : a.eval x = .int .u8 k) (hv : a.eval v = .int .u8 c) (hk : (Lit.int .u8 k).wf = true) (hc : (Lit.int .u8 c).wf = true)
    (hK : ∀ w', Own w' b (n + 1) (D.put (.int .u8 k) (.lit (.int .u8 c))) → w.grownBy w' (some b) → wpList Tryd.prog ops Q rest (a.put o.dst undef) w') : wpList Tryd.prog ops Q (o :: rest) a w := by
  refine wpList_plain hg fun K' hK' => ?_
  obtain ⟨w', hrun, r1, r2⟩ := hown.update law5 Tryd.underlying92 (by unfold maxLen; omega) (Maps.keyOf_int_mk Tryd.underlying5 hk) (plainElem_int Tryd.underlying5 hc)
  unfold Oper.wp
  simp [execOp, hop, hm, hx, hv, hrun, Result.andThen]
  exact hK' _ _ (hK w' r1 r2)
def namedD : DataW Unit := ((((DataW.map []).put (.int .u8 110) (.lit (.int .u8 10))).put (.int .u8 116) (.lit (.int .u8 9))).put (.int .u8 92) (.lit (.int .u8 92))).put (.int .u8 34) (.lit (.int .u8 34))
theorem named_any (w : World) : Calls Tryd.prog 46 #[] w fun e w' => e = .returned (.map (some w.heap.size)) ∧ Own w' w.heap.size 4 namedD ∧ Below w.heap.size w w' := by
  have hmm := @run_makeMap Tryd.prog
  have h0 : Own (w.alloc (.map #[] 0)) w.heap.size 0 (.map []) := World.ownsMap_made _ _ _ _
  go_enter Tryd.func46, Tryd.ntmps46
  go_wp2_with (first | (refine insert_own _ rfl (.tmp 1) (.const (.int .u8 110)) (.const (.int .u8 10)) rfl w.heap.size 0 _ rfl h0 (by omega) 110 10 rfl rfl (by decide) (by decide) ?_; intro w1 h1 g1) | (refine insert_own _ rfl (.tmp 1) (.const (.int .u8 116)) (.const (.int .u8 9)) rfl w.heap.size 1 _ rfl h1 (by omega) 116 9 rfl rfl (by decide) (by decide) ?_; intro w2 h2 g2) | (refine insert_own _ rfl (.tmp 1) (.const (.int .u8 92)) (.const (.int .u8 92)) rfl w.heap.size 2 _ rfl h2 (by omega) 92 92 rfl rfl (by decide) (by decide) ?_; intro w3 h3 g3) | (refine insert_own _ rfl (.tmp 1) (.const (.int .u8 34)) (.const (.int .u8 34)) rfl w.heap.size 3 _ rfl h3 (by omega) 34 34 rfl rfl (by decide) (by decide) ?_; intro w4 h4 g4))
  go_ret
  refine ⟨rfl, h4, ?_⟩
  have b1 : Below w.heap.size w w1 := (below_alloc (Below.refl _ _) (.map #[] 0)).grown g1 (by simp) (fun k hk => by injection hk; omega)
  have b2 := b1.grown g2 b1.size (fun k hk => by injection hk; omega)
  have b3 := b2.grown g3 b2.size (fun k hk => by injection hk; omega)
  exact b3.grown g4 b3.size (fun k hk => by injection hk; omega)
def longOf (x : Int) : Option Int := if x = 34 then some 34 else if x = 92 then some 92 else if x = 116 then some 9 else if x = 110 then some 10 else none
def short (c : Int) : Option Int := if c = 34 then some 34 else if c = 92 then some 92 else if c = 9 then some 116 else if c = 10 then some 110 else none
theorem short_of_long {x c : Int} (h : longOf x = some c) : short c = some x := by
  unfold longOf at h; unfold short
  repeat' split at h
  all_goals first | (cases h; subst_vars; rfl) | cases h
theorem long_of_short {x c : Int} (h : short c = some x) : longOf x = some c := by
  unfold short at h; unfold longOf
  repeat' split at h
  all_goals first | (cases h; subst_vars; rfl) | cases h
theorem lit_ne {x y : Int} (h : x ≠ y) : Lit.int IntKind.u8 x ≠ Lit.int .u8 y := fun e => h (by injection e)
theorem isKey (x : Int) : WideAt.IsKeyLit (.int .u8 x) := by first | trivial | (simp [WideAt.IsKeyLit]) | exact .inl ⟨_, _, rfl⟩
theorem namedD_at (x : Int) (z : DataW Unit) : namedD.atKey (.int .u8 x) z = match longOf x with | some c => .lit (.int .u8 c) | none => z := by
  have i0 : Maps.IsMap (DataW.map [] : DataW Unit) := Maps.isMap_empty
  unfold namedD longOf
  by_cases h1 : x = 34
  · subst h1; rw [Maps.atKey_put_same (((i0.put _ _).put _ _).put _ _) (isKey _)]; rfl
  rw [Maps.atKey_put_other (lit_ne h1), if_neg h1]
  by_cases h2 : x = 92
  · subst h2; rw [Maps.atKey_put_same ((i0.put _ _).put _ _) (isKey _)]; rfl
  rw [Maps.atKey_put_other (lit_ne h2), if_neg h2]
  by_cases h3 : x = 116
  · subst h3; rw [Maps.atKey_put_same (i0.put _ _) (isKey _)]; rfl
  rw [Maps.atKey_put_other (lit_ne h3), if_neg h3]
  by_cases h4 : x = 110
  · subst h4; rw [Maps.atKey_put_same i0 (isKey _)]; rfl
  rw [Maps.atKey_put_other (lit_ne h4), if_neg h4]
  rfl
structure Hold (left : Lit → Bool) (D : DataW Unit) : Prop where
  isMap : Maps.IsMap D
  sound : ∀ c, Maps.has D (.int .u8 c) = true → ∃ x, short c = some x ∧ ∀ z, D.atKey (.int .u8 c) z = .lit (.int .u8 x)
  full : ∀ x c, longOf x = some c → left (.int .u8 x) = false → Maps.has D (.int .u8 c) = true
theorem Hold.start {left : Lit → Bool} (h : ∀ x c, longOf x = some c → left (.int .u8 x) = true) : Hold left (.map []) :=
  ⟨Maps.isMap_empty, fun c hc => by simp [Maps.has] at hc, fun x c hx hl => by rw [h x c hx] at hl; cases hl⟩
theorem Hold.step {left : Lit → Bool} {D : DataW Unit} (h : Hold left D) {x c : Int} (hx : longOf x = some c) : Hold (fun z => left z && !z.sameKey (.int .u8 x)) (D.put (.int .u8 c) (.lit (.int .u8 x))) := by
  refine ⟨h.isMap.put _ _, fun d hd => ?_, fun y d hy hl => ?_⟩
  · by_cases e : d = c
    · subst e; exact ⟨x, short_of_long hx, fun z => Maps.atKey_put_same h.isMap (isKey _) _ z⟩
    · rw [Maps.has_put_other (lit_ne e)] at hd
      obtain ⟨y, hy, ha⟩ := h.sound d hd
      exact ⟨y, hy, fun z => (Maps.atKey_put_other (lit_ne e) _ z).trans (ha z)⟩
  · by_cases e : d = c
    · subst e; exact Maps.has_put_same h.isMap (isKey _) _
    · rw [Maps.has_put_other (lit_ne e)]
      refine h.full y d hy ?_
      have hne : y ≠ x := fun e2 => e (by rw [e2, hx] at hy; exact (Option.some.inj hy).symm)
      rw [Maps.sameKey_ne (lit_ne hne)] at hl
      simpa using hl
theorem Hold.done {left : Lit → Bool} {D : DataW Unit} (h : Hold left D) (hl : ∀ k, left k = false) (c : Int) : Maps.has D (.int .u8 c) = (short c).isSome ∧ ∀ x, short c = some x → ∀ z, D.atKey (.int .u8 c) z = .lit (.int .u8 x) := by
  cases e : short c with
  | none =>
    refine ⟨?_, fun x hx => by cases hx⟩
    cases e2 : Maps.has D (.int .u8 c) with
    | false => rfl
    | true => obtain ⟨x, hx, _⟩ := h.sound c e2; rw [e] at hx; cases hx
  | some x =>
    have hh := h.full x c (long_of_short e) (hl _)
    refine ⟨hh, fun y hy z => ?_⟩
    obtain ⟨x', hx', ha⟩ := h.sound c hh
    rw [e] at hx'; cases hx'; cases hy
    exact ha z
theorem namedD_has (x c : Int) (h : longOf x = some c) : Maps.has namedD (.int .u8 x) = true := by
  apply Maps.has_true_of_atKey (y := .lit (.int .u8 c))
  intro z; rw [namedD_at, h]
def hexd (n : Nat) : UInt8 := if n < 10 then UInt8.ofNat (48 + n) else UInt8.ofNat (87 + n)
def qbyte (c : UInt8) : List UInt8 := match short c.toNat with
  | some x => [92, UInt8.ofNat x.toNat]
  | none => if c.toNat < 32 ∨ 126 < c.toNat then [92, 120, hexd (c.toNat / 16), hexd (c.toNat % 16)] else [c]
def qtext (s : ByteArray) : List UInt8 := 34 :: s.data.toList.flatMap qbyte ++ [34]
theorem Own.kept_below {w w' : World} {B b n : Nat} {D : DataW Unit} (h : Own w b n D) (hb : Below B w w') (hlt : b < B) : Own w' b n D := by
  obtain ⟨es, clock, h1, r⟩ := h
  exact ⟨es, clock, (hb.block b hlt).trans h1, r⟩
theorem qbyte_length (c : UInt8) : (qbyte c).length ≤ 4 := by
  unfold qbyte
  split
  · simp
  · split <;> simp
theorem qflat_length (l : List UInt8) : (l.flatMap qbyte).length ≤ 4 * l.length := by
  induction l with
  | nil => simp
  | cons c l ih => have := qbyte_length c; simp only [List.flatMap_cons, List.length_append, List.length_cons]; omega
theorem zero5 (w : World) : (zeroValue 5).run Tryd.prog w = .ok (.int .u8 0) w := by kernel_rfl
theorem lit_inj {a b : Int} (h : (DataW.lit (.int .u8 a) : DataW Unit) = .lit (.int .u8 b)) : a = b := by injection h with h; injection h
theorem short_byte {c x : Int} (h : short c = some x) : x = ((UInt8.ofNat x.toNat).toNat : Int) := by
  unfold short at h
  repeat' split at h
  all_goals first | (cases h; rfl) | cases h
end Go.Proofs.YtlbaejihlcfpeaaDoor.H
end
