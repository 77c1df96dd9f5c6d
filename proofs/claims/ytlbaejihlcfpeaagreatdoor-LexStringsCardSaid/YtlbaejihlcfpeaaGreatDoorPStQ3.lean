import Derived.LaidMore
import Derived.LaidHandle
import Derived.Stop.Joined
import Derived.Lib.IfaceEq
import Derived.Lib.IndexMore
import Derived.Shelf.Abstract
import Derived.LaidEql
import Derived.Stop.Asserts
import Derived.RowKitTokens
import Derived.Lib.LaidTab
import Derived.Lib.AppendIntMem
import Derived.Stop.LaidErr
import Derived.WalkKit
import Derived.Deep.RegionLaw
import Derived.Deep.Cut
import Derived.WalkSpells
import Derived.Maps.OwnOps
import Derived.Maps.OwnSet
import Derived.Maps.Views
import Derived.Maps.RangeWalk
import Derived.Maps.Own
import Derived.Shelf.Strings.BuilderK
import Derived.Shelf.Strings.BuilderX
import Derived.Test.YtlbaejihlcfpeaaGreatDoorPStShelf2
import Derived.Test.YtlbaejihlcfpeaaGreatDoorProg
import Derived.Test.YtlbaejihlcfpeaaGreatDoorPStW0
import Derived.Lib.Hide
set_option linter.unusedVariables false
set_option linter.unusedSimpArgs false
section
namespace Go.Proofs.YtlbaejihlcfpeaaGreatDoor.H
open Go.Shelf Go.Extern.Stop Go.Stop Go.Extern Go.RowKit Go.Proofs.YtlbaejihlcfpeaaGreatDoorW.PrintWords Go.Proofs.YtlbaejihlcfpeaaGreatDoorW.PrintLast Go.Proofs.YtlbaejihlcfpeaaGreatDoorW.PrintMore
set_option linter.unusedVariables false
set_option linter.unusedSimpArgs false
theorem law5 : Maps.Keyed Tryz.prog 5 := Maps.int_keyed Tryz.underlying5
abbrev Own (w : World) (b n : Nat) (D : DataW Unit) : Prop := w.ownsMap Tryz.prog 5 (plainElem Tryz.prog 5) b n D
theorem insert_own (w : World) {ops : Array Oper} {rest : List Oper} {o : Oper} {a : Act} {Q : Exit → Act → World → Prop} (hg : o.guard = none) (m x v : Operand) (hop : o.op = Op.insert 60 m x v) (b n : Nat) (D : DataW Unit)
    (hm : a.eval m = .map (some b)) (hown : Own w b n D) (hn : n < 1000) (k c : Int) (hx : a.eval x = .int .u8 k) (hv : a.eval v = .int .u8 c) (hk : (Lit.int .u8 k).wf = true) (hc : (Lit.int .u8 c).wf = true)
    (hK : ∀ w', Own w' b (n + 1) (D.put (.int .u8 k) (.lit (.int .u8 c))) → w.grownBy w' (some b) → wpList Tryz.prog ops Q rest (a.put o.dst undef) w') : wpList Tryz.prog ops Q (o :: rest) a w := by
  refine wpList_plain hg fun K' hK' => ?_
  obtain ⟨w', hrun, r1, r2⟩ := hown.update law5 Tryz.underlying60 (by unfold maxLen; omega) (Maps.keyOf_int_mk Tryz.underlying5 hk) (plainElem_int Tryz.underlying5 hc)
  unfold Oper.wp
  simp [execOp, hop, hm, hx, hv, hrun, Result.andThen]
  exact hK' _ _ (hK w' r1 r2)
def namedD : DataW Unit := ((((DataW.map []).put (.int .u8 110) (.lit (.int .u8 10))).put (.int .u8 116) (.lit (.int .u8 9))).put (.int .u8 92) (.lit (.int .u8 92))).put (.int .u8 34) (.lit (.int .u8 34))
theorem named_any (w : World) : Calls Tryz.prog 24 #[] w fun e w' => e = .returned (.map (some w.heap.size)) ∧ Own w' w.heap.size 4 namedD ∧ Below w.heap.size w w' := by
  have hmm := @run_makeMap Tryz.prog
  have h0 : Own (w.alloc (.map #[] 0)) w.heap.size 0 (.map []) := World.ownsMap_made _ _ _ _
  go_enter Tryz.func24, Tryz.ntmps24
  go_wp2_with (first | (refine insert_own _ rfl (.tmp 1) (.const (.int .u8 110)) (.const (.int .u8 10)) rfl w.heap.size 0 _ rfl h0 (by omega) 110 10 rfl rfl (by decide) (by decide) ?_; intro w1 h1 g1) | (refine insert_own _ rfl (.tmp 1) (.const (.int .u8 116)) (.const (.int .u8 9)) rfl w.heap.size 1 _ rfl h1 (by omega) 116 9 rfl rfl (by decide) (by decide) ?_; intro w2 h2 g2) | (refine insert_own _ rfl (.tmp 1) (.const (.int .u8 92)) (.const (.int .u8 92)) rfl w.heap.size 2 _ rfl h2 (by omega) 92 92 rfl rfl (by decide) (by decide) ?_; intro w3 h3 g3) | (refine insert_own _ rfl (.tmp 1) (.const (.int .u8 34)) (.const (.int .u8 34)) rfl w.heap.size 3 _ rfl h3 (by omega) 34 34 rfl rfl (by decide) (by decide) ?_; intro w4 h4 g4))
  go_ret
  refine ⟨rfl, h4, ?_⟩
  have b1 : Below w.heap.size w w1 := (below_alloc (Below.refl _ _) (.map #[] 0)).grown g1 (by simp) (fun k hk => by injection hk; omega)
  have b2 := b1.grown g2 b1.size (fun k hk => by injection hk; omega)
  have b3 := b2.grown g3 b2.size (fun k hk => by injection hk; omega)
  exact b3.grown g4 b3.size (fun k hk => by injection hk; omega)
def longOf (x : Int) : Option Int := if x = 34 then some 34 else if x = 92 then some 92 else if x = 116 then some 9 else if x = 110 then some 10 else none
def short (c : Int) : Option Int := if c = 34 then some 34 else if c = 92 then some 92 else if c = 9 then some 116 else if c = 10 then some 110 else none
theorem short_of_long {x c : Int} (h : longOf x = some c) : short c = some x := by
  unfold longOf at h; unfold short
  repeat' split at h
  all_goals first | (cases h; subst_vars; rfl) | cases h
theorem long_of_short {x c : Int} (h : short c = some x) : longOf x = some c := by
  unfold short at h; unfold longOf
  repeat' split at h
  all_goals first | (cases h; subst_vars; rfl) | cases h
theorem lit_ne {x y : Int} (h : x ≠ y) : Lit.int IntKind.u8 x ≠ Lit.int .u8 y := fun e => h (by injection e)
theorem isKey (x : Int) : WideAt.IsKeyLit (.int .u8 x) := by first | trivial | (simp [WideAt.IsKeyLit]) | exact .inl ⟨_, _, rfl⟩
theorem namedD_at (x : Int) (z : DataW Unit) : namedD.atKey (.int .u8 x) z = match longOf x with | some c => .lit (.int .u8 c) | none => z := by
  have i0 : Maps.IsMap (DataW.map [] : DataW Unit) := Maps.isMap_empty
  unfold namedD longOf
  by_cases h1 : x = 34
  · subst h1; rw [Maps.atKey_put_same (((i0.put _ _).put _ _).put _ _) (isKey _)]; rfl
  rw [Maps.atKey_put_other (lit_ne h1), if_neg h1]
  by_cases h2 : x = 92
  · subst h2; rw [Maps.atKey_put_same ((i0.put _ _).put _ _) (isKey _)]; rfl
  rw [Maps.atKey_put_other (lit_ne h2), if_neg h2]
  by_cases h3 : x = 116
  · subst h3; rw [Maps.atKey_put_same (i0.put _ _) (isKey _)]; rfl
  rw [Maps.atKey_put_other (lit_ne h3), if_neg h3]
  by_cases h4 : x = 110
  · subst h4; rw [Maps.atKey_put_same i0 (isKey _)]; rfl
  rw [Maps.atKey_put_other (lit_ne h4), if_neg h4]
  rfl
theorem namedD_entry {x c : Int} (h : ∀ z, namedD.atKey (.int .u8 x) z = .lit (.int .u8 c)) : longOf x = some c := by
  have h1 := h (.map [])
  rw [namedD_at] at h1
  cases e : longOf x with
  | none => rw [e] at h1; cases h1
  | some d => rw [e] at h1; injection h1 with h2; injection h2 with _ h3; rw [h3]
structure Hold (left : Lit → Bool) (D : DataW Unit) : Prop where
  isMap : Maps.IsMap D
  sound : ∀ c, Maps.has D (.int .u8 c) = true → ∃ x, short c = some x ∧ ∀ z, D.atKey (.int .u8 c) z = .lit (.int .u8 x)
  full : ∀ x c, longOf x = some c → left (.int .u8 x) = false → Maps.has D (.int .u8 c) = true
theorem Hold.start {left : Lit → Bool} (h : ∀ x c, longOf x = some c → left (.int .u8 x) = true) : Hold left (.map []) :=
  ⟨Maps.isMap_empty, fun c hc => by simp [Maps.has] at hc, fun x c hx hl => by rw [h x c hx] at hl; cases hl⟩
theorem Hold.step {left : Lit → Bool} {D : DataW Unit} (h : Hold left D) {x c : Int} (hx : longOf x = some c) : Hold (fun z => left z && !z.sameKey (.int .u8 x)) (D.put (.int .u8 c) (.lit (.int .u8 x))) := by
  refine ⟨h.isMap.put _ _, fun d hd => ?_, fun y d hy hl => ?_⟩
  · by_cases e : d = c
    · subst e; exact ⟨x, short_of_long hx, fun z => Maps.atKey_put_same h.isMap (isKey _) _ z⟩
    · rw [Maps.has_put_other (lit_ne e)] at hd
      obtain ⟨y, hy, ha⟩ := h.sound d hd
      exact ⟨y, hy, fun z => (Maps.atKey_put_other (lit_ne e) _ z).trans (ha z)⟩
  · by_cases e : d = c
    · subst e; exact Maps.has_put_same h.isMap (isKey _) _
    · rw [Maps.has_put_other (lit_ne e)]
      refine h.full y d hy ?_
      have hne : y ≠ x := fun e2 => e (by rw [e2, hx] at hy; exact (Option.some.inj hy).symm)
      rw [Maps.sameKey_ne (lit_ne hne)] at hl
      simpa using hl
theorem Hold.done {left : Lit → Bool} {D : DataW Unit} (h : Hold left D) (hl : ∀ k, left k = false) (c : Int) : Maps.has D (.int .u8 c) = (short c).isSome ∧ ∀ x, short c = some x → ∀ z, D.atKey (.int .u8 c) z = .lit (.int .u8 x) := by
  cases e : short c with
  | none =>
    refine ⟨?_, fun x hx => by cases hx⟩
    cases e2 : Maps.has D (.int .u8 c) with
    | false => rfl
    | true => obtain ⟨x, hx, _⟩ := h.sound c e2; rw [e] at hx; cases hx
  | some x =>
    have hh := h.full x c (long_of_short e) (hl _)
    refine ⟨hh, fun y hy z => ?_⟩
    obtain ⟨x', hx', ha⟩ := h.sound c hh
    rw [e] at hx'; cases hx'; cases hy
    exact ha z
theorem namedD_has (x c : Int) (h : longOf x = some c) : Maps.has namedD (.int .u8 x) = true := by
  apply Maps.has_true_of_atKey (y := .lit (.int .u8 c))
  intro z; rw [namedD_at, h]
theorem namedD_size : Maps.size namedD = 4 := by rfl
def hexd (n : Nat) : UInt8 := if n < 10 then UInt8.ofNat (48 + n) else UInt8.ofNat (87 + n)
def qbyte (c : UInt8) : List UInt8 := match short c.toNat with
  | some x => [92, UInt8.ofNat x.toNat]
  | none => if c.toNat < 32 ∨ 126 < c.toNat then [92, 120, hexd (c.toNat / 16), hexd (c.toNat % 16)] else [c]
def qtext (s : ByteArray) : List UInt8 := 34 :: s.data.toList.flatMap qbyte ++ [34]
theorem Own.others {w w' : World} {b0 b n : Nat} {D : DataW Unit} (h : Own w b n D) (hk : Lib.OthersKept 5 (some b0) w w') (hne : b ≠ b0) : Own w' b n D := by
  obtain ⟨es, clock, hb, r⟩ := h
  exact ⟨es, clock, hk b _ hb (fun e => hne (Option.some.inj e)) (fun _ _ e => by cases e), r⟩
theorem Own.kept_below {w w' : World} {B b n : Nat} {D : DataW Unit} (h : Own w b n D) (hb : Below B w w') (hlt : b < B) : Own w' b n D := by
  obtain ⟨es, clock, h1, r⟩ := h
  exact ⟨es, clock, (hb.block b hlt).trans h1, r⟩
structure QSt (w wr : World) (D : DataW Unit) (n : Nat) (acc : List UInt8) (wl : World) : Prop where
  bld : Lib.IsBuilderF 64 5 wr.heap.size wr.heap.size (Lib.byteCells acc) wl
  own : Own wl w.heap.size n D
  below : Below w.heap.size w wl
  size : wr.heap.size ≤ wl.heap.size
  lt : w.heap.size < wr.heap.size
theorem wbyte {w wr : World} {D : DataW Unit} {n : Nat} {acc : List UInt8} {wl : World} (h : QSt w wr D n acc wl) (hl : acc.length ≤ 35184372088832) (c : Int) (c8 : UInt8) (hc : c = c8.toNat) :
    Calls Tryz.prog 25 #[.pointer (some ⟨wr.heap.size, 0, none⟩), .int .u8 c] wl fun e w' => e = .returned .nilIface ∧ QSt w wr D n (acc ++ [c8]) w' := by
  refine (Tryz.WriteByte_k wr.heap.size wr.heap.size _ c wl h.bld (by rw [Lib.byteCells_length]; omega) h.size).mono ?_
  rintro e w' ⟨rfl, h1, b1, k1⟩
  refine ⟨rfl, ?_, h.own.others k1 (by have := h.lt; omega), h.below.trans (b1.mono (by have := h.lt; omega)), by have := b1.size; have := h.size; omega, h.lt⟩
  rw [Lib.byteCells_append]
  subst hc
  exact Or.inr h1
theorem wstring {w wr : World} {D : DataW Unit} {n : Nat} {acc : List UInt8} {wl : World} (h : QSt w wr D n acc wl) (hl : acc.length ≤ 35184372088832) (t : ByteArray) (ht : t.size ≤ 100) :
    Calls Tryz.prog 26 #[.pointer (some ⟨wr.heap.size, 0, none⟩), .string t] wl fun e w' => e = .returned (.tuple #[.int .i64 t.size, .nilIface]) ∧ QSt w wr D n (acc ++ t.data.toList) w' := by
  refine (Tryz.WriteString_k wr.heap.size wr.heap.size _ t wl h.bld (by rw [Lib.byteCells_length]; omega) h.size).mono ?_
  rintro e w' ⟨rfl, h1, b1, k1⟩
  refine ⟨rfl, ?_, h.own.others k1 (by have := h.lt; omega), h.below.trans (b1.mono (by have := h.lt; omega)), by have := b1.size; have := h.size; omega, h.lt⟩
  rw [Lib.byteCells_append]
  exact Or.inr h1
theorem qbyte_length (c : UInt8) : (qbyte c).length ≤ 4 := by
  unfold qbyte
  split
  · simp
  · split <;> simp
theorem qflat_length (l : List UInt8) : (l.flatMap qbyte).length ≤ 4 * l.length := by
  induction l with
  | nil => simp
  | cons c l ih => have := qbyte_length c; simp only [List.flatMap_cons, List.length_append, List.length_cons]; omega
theorem hex_at (n : Nat) (h : n < 16) : (⟨#[48, 49, 50, 51, 52, 53, 54, 55, 56, 57, 97, 98, 99, 100, 101, 102]⟩ : ByteArray).data[n]? = some (hexd n) := by
  have : ∀ k : Fin 16, (⟨#[48, 49, 50, 51, 52, 53, 54, 55, 56, 57, 97, 98, 99, 100, 101, 102]⟩ : ByteArray).data[k.val]? = some (hexd k.val) := by decide +kernel
  exact this ⟨n, h⟩
theorem zero5 (w : World) : (zeroValue 5).run Tryz.prog w = .ok (.int .u8 0) w := by kernel_rfl
theorem wf_u8 (c : UInt8) : (Lit.int .u8 (c.toNat : Int)).wf = true := by
  have := c.toNat_lt
  have e0 : IntKind.u8.min = 0 := by decide
  have e1 : IntKind.u8.max = 255 := by decide
  simp [Lit.wf, e0, e1]
  omega
theorem lit_inj {a b : Int} (h : (DataW.lit (.int .u8 a) : DataW Unit) = .lit (.int .u8 b)) : a = b := by injection h with h; injection h
theorem short_byte {c x : Int} (h : short c = some x) : x = ((UInt8.ofNat x.toNat).toNat : Int) := by
  unfold short at h
  repeat' split at h
  all_goals first | (cases h; rfl) | cases h
theorem take_byte {s : ByteArray} {i : Nat} (h : i < s.size) : (s.data.toList.take (i + 1)).flatMap qbyte = (s.data.toList.take i).flatMap qbyte ++ qbyte (s[i]'h) := by
  rw [List.take_add_one, List.flatMap_append]
  have : s.data.toList[i]? = some (s[i]'h) := by rw [Array.getElem?_toList]; exact Array.getElem?_eq_getElem h
  rw [this]; simp
theorem hex_get (n : Nat) (h : n < 16) (h' : n < (⟨#[48, 49, 50, 51, 52, 53, 54, 55, 56, 57, 97, 98, 99, 100, 101, 102]⟩ : ByteArray).size) : (⟨#[48, 49, 50, 51, 52, 53, 54, 55, 56, 57, 97, 98, 99, 100, 101, 102]⟩ : ByteArray)[n]'h' = hexd n := by
  have := hex_at n h
  rw [Array.getElem?_eq_getElem h'] at this
  exact Option.some.inj this
set_option maxHeartbeats 4000000 in
set_option maxRecDepth 100000 in
theorem Quote_any (s : ByteArray) (hs : s.size ≤ 1099511627776) (w : World) : Calls Tryz.prog 14 #[.string s] w fun e w' => e = .returned (.string ⟨(qtext s).toArray⟩) ∧ Below w.heap.size w w' := by
  have hmm := @run_makeMap Tryz.prog
  go_enter Tryz.func14, Tryz.ntmps14
  go_wp2_with (with_reducible refine (named_any _).mono ?_)
  rintro e w1 ⟨rfl, o1, b1⟩
  have e1 : (w.alloc (.map #[] 0)).heap.size = w.heap.size + 1 := by simp
  rw [e1] at o1 b1 ⊢
  have m1 : Own w1 w.heap.size 0 (.map []) := Own.kept_below (World.ownsMap_made _ _ _ _) b1 (by omega)
  have bw1 : Below w.heap.size w w1 := ((Below.refl _ w).alloc (Nat.le_refl _) _).trans (b1.mono (by omega))
  have s1 := b1.size
  rw [e1] at s1
  go_wp2_with (first | (at_range; refine wpList_range_own _ rfl _ 60 rfl 5 5 law5 Tryz.underlying60 _ (w.heap.size + 1) 4 _ rfl o1 ?_; intro w0 hrg0 hg0 hs0) | go_in)
  go_frame
  go_loopw [] (fun wr => ∃ (left : Lit → Bool) (cnt n : Nat) (D : DataW Unit), wr.ranges Tryz.prog 5 (plainElem Tryz.prog 5) (w.heap.size + 1) w1.heap.size 4 namedD left cnt ∧ n + cnt ≤ 4 ∧ Own wr w.heap.size n D ∧ Hold left D ∧ Below w.heap.size w wr)
    (fun wr => wr.rangeLeft (w.heap.size + 1) w1.heap.size)
  case atStart =>
    exact ⟨_, _, 0, .map [], hrg0, by rw [namedD_size]; omega, m1.kept hg0 (by simp), Hold.start namedD_has, bw1.grown hg0 (by have := bw1.size; omega) (fun j hj => by cases hj)⟩
  case round =>
    obtain ⟨left, cnt, n, D, hrg, hcs, hout, hA, hnx⟩ := hrel
    go_wp2_with (first | (at_next; refine wpList_next_ranges_ii _ rfl _ rfl 5 5 .u8 .u8 law5 Tryz.underlying5 Tryz.underlying5 (w.heap.size + 1) w1.heap.size 4 _ _ _ rfl hrg ?_ ?_) | go_in)
    · intro hc0 hl0
      clear hmm
      have hD := hA.done hl0
      clear hA
      have hD' := Aside0.mk hD
      clear hD
      obtain ⟨wo, hwo⟩ : ∃ wo, wo = wr := ⟨wr, rfl⟩
      subst hwo
      go_wp2_with (with_reducible refine (Tryz.WriteByte_k wo.heap.size wo.heap.size [] 34 _ (Lib.IsBuilderF.of (Lib.fresh_isBuilder 64 5 wo)) (by simp) (by simp)).mono ?_)
      rintro e wb ⟨rfl, hb1, bb1, kb1⟩
      have hlt := hout.lt
      have q0 : QSt w wo D n [34] wb := ⟨Or.inr hb1, Own.others (World.ownsMap.alloc hout _) kb1 (by omega), (hnx.alloc hnx.size _).trans (bb1.mono (by omega)), by have := bb1.size; simp at this; omega, hlt⟩
      clear hb1 bb1 kb1 hnx hout hrg hcs
      go_wp2_with fail
      go_loopw [25] (fun v wl => ∃ i : Nat, v = .int .i64 i ∧ i ≤ s.size ∧ QSt w wo D n (34 :: (s.data.toList.take i).flatMap qbyte) wl) (fun v _ => s.size - (intOf v).toNat)
      case atStart =>
        exact ⟨0, rfl, Nat.zero_le _, q0⟩
      case round =>
        obtain ⟨i, rfl, hi, q⟩ := hrel
        have hal : (34 :: (s.data.toList.take i).flatMap qbyte).length ≤ 4398046511105 := by
          have := qflat_length (s.data.toList.take i)
          have h2 : (s.data.toList.take i).length ≤ i := List.length_take_le _ _
          simp only [List.length_cons]; omega
        generalize hacc : (34 :: (s.data.toList.take i).flatMap qbyte) = acc at q hal
        have Hacc := Aside0.mk hacc
        clear hacc
        by_cases hlt2 : i < s.size
        · cases hsh : short (s[i]'hlt2).toNat with
          | some x =>
            obtain ⟨h1, h2⟩ := hD'.out (s[i]'hlt2).toNat
            rw [hsh] at h1
            have h2' := Aside0.mk (h2 x hsh)
            clear h2
            have hx := Aside0.mk (short_byte hsh)
            have Hsh := Aside0.mk hsh
            clear hsh
            go_wp2_with (first | (at_lookup; refine wpList_lookup_own_ok_int _ rfl _ _ 60 rfl 5 5 .u8 law5 Tryz.underlying60 Tryz.underlying5 (zero5 _) w.heap.size n D rfl q.own _ _ rfl (Maps.keyOf_int_mk Tryz.underlying5 (wf_u8 _)) ?_; intro cL hat hwc; rw [h1]; obtain rfl := lit_inj (hat.symm.trans (h2'.out _)); clear hat) | (with_reducible refine (wbyte q (by omega) 92 92 rfl).mono ?_))
            rintro e w2 ⟨rfl, q2⟩
            go_wp2_with (first | (with_reducible refine (wbyte q2 (by simp; omega) _ (UInt8.ofNat cL.toNat) hx.out).mono ?_))
            rintro e w3 ⟨rfl, q3⟩
            go_wp2_with fail
            go_roundw
            case rel =>
              refine ⟨i + 1, rfl, hlt2, ?_⟩
              rw [take_byte hlt2, ← List.cons_append, Hacc.out]
              have : qbyte (s[i]'hlt2) = [92, UInt8.ofNat cL.toNat] := by unfold qbyte; rw [Hsh.out]
              rw [this]
              simpa using q3
            case measure => simp [intOf]; omega
          | none =>
            obtain ⟨h1, h2⟩ := hD'.out (s[i]'hlt2).toNat
            rw [hsh] at h1
            clear h2
            have Hsh := Aside0.mk hsh
            clear hsh
            by_cases hr : (s[i]'hlt2).toNat < 32 ∨ 126 < (s[i]'hlt2).toNat
            · have hq : qbyte (s[i]'hlt2) = [92, 120, hexd ((s[i]'hlt2).toNat / 16), hexd ((s[i]'hlt2).toNat % 16)] := by unfold qbyte; rw [Hsh.out]; exact if_pos hr
              have Hq := Aside0.mk hq
              clear hq
              rcases (show (s[i]'hlt2).toNat < 32 ∨ (¬ (s[i]'hlt2).toNat < 32 ∧ 126 < (s[i]'hlt2).toNat) by omega) with hr1 | ⟨hr1, hr2⟩
              · clear hr
                have hb256 : (s[i]'hlt2).toNat < 256 := (s[i]'hlt2).toNat_lt
                go_wp2_with (first | (at_lookup; refine wpList_lookup_own_ok_int _ rfl _ _ 60 rfl 5 5 .u8 law5 Tryz.underlying60 Tryz.underlying5 (zero5 _) w.heap.size n D rfl q.own _ _ rfl (Maps.keyOf_int_mk Tryz.underlying5 (wf_u8 _)) ?_; intro cL hat hwc; rw [h1]) | (with_reducible refine (wstring q (by omega) ⟨#[92, 120]⟩ (by decide)).mono ?_))
                intro e w2 he q2
                subst he
                go_wp2_with (with_reducible refine (wbyte q2 (by simp; omega) _ _ rfl).mono ?_)
                rintro e w3 ⟨rfl, q3⟩
                go_wp2_with (with_reducible refine (wbyte q3 (by simp; omega) _ _ rfl).mono ?_)
                rintro e w4 ⟨rfl, q4⟩
                go_wp2_with fail
                go_roundw
                case rel =>
                  refine ⟨i + 1, rfl, hlt2, ?_⟩
                  rw [take_byte hlt2, ← List.cons_append, Hacc.out, Hq.out]
                  rw [hex_get _ (by omega), hex_get _ (by omega)] at q4
                  simpa using q4
                case measure => simp [intOf]; omega
              · clear hr
                have hb256 : (s[i]'hlt2).toNat < 256 := (s[i]'hlt2).toNat_lt
                go_wp2_with (first | (at_lookup; refine wpList_lookup_own_ok_int _ rfl _ _ 60 rfl 5 5 .u8 law5 Tryz.underlying60 Tryz.underlying5 (zero5 _) w.heap.size n D rfl q.own _ _ rfl (Maps.keyOf_int_mk Tryz.underlying5 (wf_u8 _)) ?_; intro cL hat hwc; rw [h1]) | (with_reducible refine (wstring q (by omega) ⟨#[92, 120]⟩ (by decide)).mono ?_))
                intro e w2 he q2
                subst he
                go_wp2_with (with_reducible refine (wbyte q2 (by simp; omega) _ _ rfl).mono ?_)
                rintro e w3 ⟨rfl, q3⟩
                go_wp2_with (with_reducible refine (wbyte q3 (by simp; omega) _ _ rfl).mono ?_)
                rintro e w4 ⟨rfl, q4⟩
                go_wp2_with fail
                go_roundw
                case rel =>
                  refine ⟨i + 1, rfl, hlt2, ?_⟩
                  rw [take_byte hlt2, ← List.cons_append, Hacc.out, Hq.out]
                  rw [hex_get _ (by omega), hex_get _ (by omega)] at q4
                  simpa using q4
                case measure => simp [intOf]; omega
            · have hq : qbyte (s[i]'hlt2) = [s[i]'hlt2] := by unfold qbyte; rw [Hsh.out]; exact if_neg hr
              have Hq := Aside0.mk hq
              clear hq
              go_wp2_with (first | (at_lookup; refine wpList_lookup_own_ok_int _ rfl _ _ 60 rfl 5 5 .u8 law5 Tryz.underlying60 Tryz.underlying5 (zero5 _) w.heap.size n D rfl q.own _ _ rfl (Maps.keyOf_int_mk Tryz.underlying5 (wf_u8 _)) ?_; intro cL hat hwc; rw [h1]) | (with_reducible refine (wbyte q (by omega) _ (s[i]'hlt2) rfl).mono ?_))
              rintro e w2 ⟨rfl, q2⟩
              go_wp2_with fail
              go_roundw
              case rel =>
                refine ⟨i + 1, rfl, hlt2, ?_⟩
                rw [take_byte hlt2, ← List.cons_append, Hacc.out, Hq.out]
                exact q2
              case measure => simp [intOf]; omega
        · go_wp2_with (first | (with_reducible refine (wbyte q (by omega) 34 34 rfl).mono ?_))
          rintro e w2 ⟨rfl, q2⟩
          go_wp2_with (first | (with_reducible refine (Tryz.Builder_String_any_k wo.heap.size wo.heap.size _ _ q2.bld q2.size).mono ?_))
          rintro e w3 ⟨rfl, _, b3, _⟩
          go_wp2_with fail
          go_ret
          have he : i = s.size := by omega
          have ht : s.data.toList.take i = s.data.toList := List.take_of_length_le (by rw [he]; exact Nat.le_refl _)
          refine ⟨?_, q2.below.trans (b3.mono (by have := q.lt; omega))⟩
          unfold qtext
          rw [← ht, Hacc.out]
          rfl
    · intro x c w2 cnt2 hwx hwc hlx hat hrg1 hlt hg1 hs1 hen
      have hlong := namedD_entry hat
      have hout1 := hout.kept hg1 (by simp; omega)
      go_wp2_with (first
        | (at_mapUpdate; refine wpList_mapUpdate_own _ rfl _ _ _ 60 rfl 5 5 law5 Tryz.underlying60 _ w.heap.size _ _ rfl hout1 (by unfold maxLen; omega) _ _ _ rfl rfl (Maps.keyOf_int_mk Tryz.underlying5 hwc) _ [] (plainElem_int Tryz.underlying5 hwx) ?_; intro w3 hout2 hg2; go_frame)
        | go_in)
      have hrg2 := hrg1.kept hg2 (fun e => by have := Option.some.inj e; omega) (fun e => by have := Option.some.inj e; omega)
      go_roundw
      case rel =>
        exact ⟨_, cnt2, n + 1, _, hrg2, by omega, hout2, hA.step hlong, (hnx.grown hg1 hnx.size (fun j hj => by cases hj; omega)).grown hg2 (by have := hnx.size; omega) (fun j hj => by cases hj; exact Nat.le_refl _)⟩
      case measure => rw [hrg2.left_eq, hrg.left_eq]; exact hlt
end Go.Proofs.YtlbaejihlcfpeaaGreatDoor.H
end
