import Derived.Test.YtnklefbojabblaaShelf
import Derived.Test.YtnklefbojabblaaWWords
import Derived.Test.YtnklefbojabblaaWLast
import Derived.Test.YtnklefbojabblaaWMore
import Derived.Lib.Hide
import Derived.Maps.OwnOps
import Derived.Maps.OwnSet
import Derived.Maps.Views
import Derived.Maps.RangeWalk
import Derived.Maps.Own
import Derived.ScopeJumps
import Derived.WalkMore
import Derived.BigQuiet
import Derived.Deep.QuietTactic
namespace Go.Proofs.Ytnklefbojabblaa.H
open Go.RowKit Go.Proofs.YtnklefbojabblaaW.PrintWords Go.Proofs.YtnklefbojabblaaW.PrintLast Go.Proofs.YtnklefbojabblaaW.PrintMore
set_option linter.unusedVariables false
set_option linter.unusedSimpArgs false
/-! maps of bytes that the call made -/
theorem law5 : Maps.Keyed Try.prog 5 := Maps.int_keyed Try.underlying5
abbrev Own (w : World) (b n : Nat) (D : DataW Unit) : Prop := w.ownsMap Try.prog 5 (plainElem Try.prog 5) b n D
theorem insert_own (w : World) {ops : Array Oper} {rest : List Oper} {o : Oper} {a : Act} {Q : Exit → Act → World → Prop} (hg : o.guard = none) (m x v : Operand) (hop : o.op = Op.insert 31 m x v) (b n : Nat) (D : DataW Unit)
    (hm : a.eval m = .map (some b)) (hown : Own w b n D) (hn : n < 1000) (k c : Int) (hx : a.eval x = .int .u8 k) (hv : a.eval v = .int .u8 c) (hk : (Lit.int .u8 k).wf = true) (hc : (Lit.int .u8 c).wf = true)
    (hK : ∀ w', Own w' b (n + 1) (D.put (.int .u8 k) (.lit (.int .u8 c))) → w.grownBy w' (some b) → wpList Try.prog ops Q rest (a.put o.dst undef) w') : wpList Try.prog ops Q (o :: rest) a w := by
  refine wpList_plain hg fun K' hK' => ?_
  obtain ⟨w', hrun, r1, r2⟩ := hown.update law5 Try.underlying31 (by unfold maxLen; omega) (Maps.keyOf_int_mk Try.underlying5 hk) (plainElem_int Try.underlying5 hc)
  unfold Oper.wp
  simp [execOp, hop, hm, hx, hv, hrun, Result.andThen]
  exact hK' _ _ (hK w' r1 r2)
def namedD : DataW Unit := ((((DataW.map []).put (.int .u8 110) (.lit (.int .u8 10))).put (.int .u8 116) (.lit (.int .u8 9))).put (.int .u8 92) (.lit (.int .u8 92))).put (.int .u8 34) (.lit (.int .u8 34))
theorem named_any (w : World) : Calls Try.prog 13 #[] w fun e w' => e = .returned (.map (some w.heap.size)) ∧ Own w' w.heap.size 4 namedD ∧ Below w.heap.size w w' := by
  have hmm := @run_makeMap Try.prog
  have h0 : Own (w.alloc (.map #[] 0)) w.heap.size 0 (.map []) := World.ownsMap_made _ _ _ _
  go_enter Try.func13, Try.ntmps13
  go_wp2_with (first | (refine insert_own _ rfl (.tmp 1) (.const (.int .u8 110)) (.const (.int .u8 10)) rfl w.heap.size 0 _ rfl h0 (by omega) 110 10 rfl rfl (by decide) (by decide) ?_; intro w1 h1 g1) | (refine insert_own _ rfl (.tmp 1) (.const (.int .u8 116)) (.const (.int .u8 9)) rfl w.heap.size 1 _ rfl h1 (by omega) 116 9 rfl rfl (by decide) (by decide) ?_; intro w2 h2 g2) | (refine insert_own _ rfl (.tmp 1) (.const (.int .u8 92)) (.const (.int .u8 92)) rfl w.heap.size 2 _ rfl h2 (by omega) 92 92 rfl rfl (by decide) (by decide) ?_; intro w3 h3 g3) | (refine insert_own _ rfl (.tmp 1) (.const (.int .u8 34)) (.const (.int .u8 34)) rfl w.heap.size 3 _ rfl h3 (by omega) 34 34 rfl rfl (by decide) (by decide) ?_; intro w4 h4 g4))
  go_ret
  refine ⟨rfl, h4, ?_⟩
  have b1 : Below w.heap.size w w1 := (below_alloc (Below.refl _ _) (.map #[] 0)).grown g1 (by simp) (fun k hk => by injection hk; omega)
  have b2 := b1.grown g2 b1.size (fun k hk => by injection hk; omega)
  have b3 := b2.grown g3 b2.size (fun k hk => by injection hk; omega)
  exact b3.grown g4 b3.size (fun k hk => by injection hk; omega)
/-! Quote: the map turned round -/
def longOf (x : Int) : Option Int := if x = 34 then some 34 else if x = 92 then some 92 else if x = 116 then some 9 else if x = 110 then some 10 else none
def short (c : Int) : Option Int := if c = 34 then some 34 else if c = 92 then some 92 else if c = 9 then some 116 else if c = 10 then some 110 else none
theorem short_of_long {x c : Int} (h : longOf x = some c) : short c = some x := by
  unfold longOf at h; unfold short
  repeat' split at h
  all_goals first | (cases h; subst_vars; rfl) | cases h
theorem long_of_short {x c : Int} (h : short c = some x) : longOf x = some c := by
  unfold short at h; unfold longOf
  repeat' split at h
  all_goals first | (cases h; subst_vars; rfl) | cases h
theorem lit_ne {x y : Int} (h : x ≠ y) : Lit.int IntKind.u8 x ≠ Lit.int .u8 y := fun e => h (by injection e)
theorem isKey (x : Int) : WideAt.IsKeyLit (.int .u8 x) := by first | trivial | (simp [WideAt.IsKeyLit]) | exact .inl ⟨_, _, rfl⟩
theorem namedD_at (x : Int) (z : DataW Unit) : namedD.atKey (.int .u8 x) z = match longOf x with | some c => .lit (.int .u8 c) | none => z := by
  have i0 : Maps.IsMap (DataW.map [] : DataW Unit) := Maps.isMap_empty
  unfold namedD longOf
  by_cases h1 : x = 34
  · subst h1; rw [Maps.atKey_put_same (((i0.put _ _).put _ _).put _ _) (isKey _)]; rfl
  rw [Maps.atKey_put_other (lit_ne h1), if_neg h1]
  by_cases h2 : x = 92
  · subst h2; rw [Maps.atKey_put_same ((i0.put _ _).put _ _) (isKey _)]; rfl
  rw [Maps.atKey_put_other (lit_ne h2), if_neg h2]
  by_cases h3 : x = 116
  · subst h3; rw [Maps.atKey_put_same (i0.put _ _) (isKey _)]; rfl
  rw [Maps.atKey_put_other (lit_ne h3), if_neg h3]
  by_cases h4 : x = 110
  · subst h4; rw [Maps.atKey_put_same i0 (isKey _)]; rfl
  rw [Maps.atKey_put_other (lit_ne h4), if_neg h4]
  rfl
theorem namedD_entry {x c : Int} (h : ∀ z, namedD.atKey (.int .u8 x) z = .lit (.int .u8 c)) : longOf x = some c := by
  have h1 := h (.map [])
  rw [namedD_at] at h1
  cases e : longOf x with
  | none => rw [e] at h1; cases h1
  | some d => rw [e] at h1; injection h1 with h2; injection h2 with _ h3; rw [h3]
structure Hold (left : Lit → Bool) (D : DataW Unit) : Prop where
  isMap : Maps.IsMap D
  sound : ∀ c, Maps.has D (.int .u8 c) = true → ∃ x, short c = some x ∧ ∀ z, D.atKey (.int .u8 c) z = .lit (.int .u8 x)
  full : ∀ x c, longOf x = some c → left (.int .u8 x) = false → Maps.has D (.int .u8 c) = true
theorem Hold.start {left : Lit → Bool} (h : ∀ x c, longOf x = some c → left (.int .u8 x) = true) : Hold left (.map []) :=
  ⟨Maps.isMap_empty, fun c hc => by simp [Maps.has] at hc, fun x c hx hl => by rw [h x c hx] at hl; cases hl⟩
theorem Hold.step {left : Lit → Bool} {D : DataW Unit} (h : Hold left D) {x c : Int} (hx : longOf x = some c) : Hold (fun z => left z && !z.sameKey (.int .u8 x)) (D.put (.int .u8 c) (.lit (.int .u8 x))) := by
  refine ⟨h.isMap.put _ _, fun d hd => ?_, fun y d hy hl => ?_⟩
  · by_cases e : d = c
    · subst e; exact ⟨x, short_of_long hx, fun z => Maps.atKey_put_same h.isMap (isKey _) _ z⟩
    · rw [Maps.has_put_other (lit_ne e)] at hd
      obtain ⟨y, hy, ha⟩ := h.sound d hd
      exact ⟨y, hy, fun z => (Maps.atKey_put_other (lit_ne e) _ z).trans (ha z)⟩
  · by_cases e : d = c
    · subst e; exact Maps.has_put_same h.isMap (isKey _) _
    · rw [Maps.has_put_other (lit_ne e)]
      refine h.full y d hy ?_
      have hne : y ≠ x := fun e2 => e (by rw [e2, hx] at hy; exact (Option.some.inj hy).symm)
      rw [Maps.sameKey_ne (lit_ne hne)] at hl
      simpa using hl
theorem Hold.done {left : Lit → Bool} {D : DataW Unit} (h : Hold left D) (hl : ∀ k, left k = false) (c : Int) : Maps.has D (.int .u8 c) = (short c).isSome ∧ ∀ x, short c = some x → ∀ z, D.atKey (.int .u8 c) z = .lit (.int .u8 x) := by
  cases e : short c with
  | none =>
    refine ⟨?_, fun x hx => by cases hx⟩
    cases e2 : Maps.has D (.int .u8 c) with
    | false => rfl
    | true => obtain ⟨x, hx, _⟩ := h.sound c e2; rw [e] at hx; cases hx
  | some x =>
    have hh := h.full x c (long_of_short e) (hl _)
    refine ⟨hh, fun y hy z => ?_⟩
    obtain ⟨x', hx', ha⟩ := h.sound c hh
    rw [e] at hx'; cases hx'; cases hy
    exact ha z
theorem namedD_has (x c : Int) (h : longOf x = some c) : Maps.has namedD (.int .u8 x) = true := by
  apply Maps.has_true_of_atKey (y := .lit (.int .u8 c))
  intro z; rw [namedD_at, h]
theorem namedD_size : Maps.size namedD = 4 := by rfl
/-! the text of one byte -/
def hexd (n : Nat) : UInt8 := if n < 10 then UInt8.ofNat (48 + n) else UInt8.ofNat (87 + n)
def qbyte (c : UInt8) : List UInt8 := match short c.toNat with
  | some x => [92, UInt8.ofNat x.toNat]
  | none => if c.toNat < 32 ∨ 126 < c.toNat then [92, 120, hexd (c.toNat / 16), hexd (c.toNat % 16)] else [c]
def qtext (s : ByteArray) : List UInt8 := 34 :: s.data.toList.flatMap qbyte ++ [34]
theorem Own.others {w w' : World} {b0 b n : Nat} {D : DataW Unit} (h : Own w b n D) (hk : Lib.OthersKept 5 (some b0) w w') (hne : b ≠ b0) : Own w' b n D := by
  obtain ⟨es, clock, hb, r⟩ := h
  exact ⟨es, clock, hk b _ hb (fun e => hne (Option.some.inj e)) (fun _ _ e => by cases e), r⟩
theorem Own.kept_below {w w' : World} {B b n : Nat} {D : DataW Unit} (h : Own w b n D) (hb : Below B w w') (hlt : b < B) : Own w' b n D := by
  obtain ⟨es, clock, h1, r⟩ := h
  exact ⟨es, clock, (hb.block b hlt).trans h1, r⟩
structure QSt (w wr : World) (D : DataW Unit) (n : Nat) (acc : List UInt8) (wl : World) : Prop where
  bld : Lib.IsBuilderF 35 5 wr.heap.size wr.heap.size (Lib.byteCells acc) wl
  own : Own wl w.heap.size n D
  below : Below w.heap.size w wl
  size : wr.heap.size ≤ wl.heap.size
  lt : w.heap.size < wr.heap.size
theorem wbyte {w wr : World} {D : DataW Unit} {n : Nat} {acc : List UInt8} {wl : World} (h : QSt w wr D n acc wl) (hl : acc.length ≤ 35184372088832) (c : Int) (c8 : UInt8) (hc : c = c8.toNat) :
    Calls Try.prog 14 #[.pointer (some ⟨wr.heap.size, 0, none⟩), .int .u8 c] wl fun e w' => e = .returned .nilIface ∧ QSt w wr D n (acc ++ [c8]) w' := by
  refine (Try.WriteByte_k wr.heap.size wr.heap.size _ c wl h.bld (by rw [Lib.byteCells_length]; omega) h.size).mono ?_
  rintro e w' ⟨rfl, h1, b1, k1⟩
  refine ⟨rfl, ?_, h.own.others k1 (by have := h.lt; omega), h.below.trans (b1.mono (by have := h.lt; omega)), by have := b1.size; have := h.size; omega, h.lt⟩
  rw [Lib.byteCells_append]
  subst hc
  exact Or.inr h1
theorem wstring {w wr : World} {D : DataW Unit} {n : Nat} {acc : List UInt8} {wl : World} (h : QSt w wr D n acc wl) (hl : acc.length ≤ 35184372088832) (t : ByteArray) (ht : t.size ≤ 100) :
    Calls Try.prog 15 #[.pointer (some ⟨wr.heap.size, 0, none⟩), .string t] wl fun e w' => e = .returned (.tuple #[.int .i64 t.size, .nilIface]) ∧ QSt w wr D n (acc ++ t.data.toList) w' := by
  refine (Try.WriteString_k wr.heap.size wr.heap.size _ t wl h.bld (by rw [Lib.byteCells_length]; omega) h.size).mono ?_
  rintro e w' ⟨rfl, h1, b1, k1⟩
  refine ⟨rfl, ?_, h.own.others k1 (by have := h.lt; omega), h.below.trans (b1.mono (by have := h.lt; omega)), by have := b1.size; have := h.size; omega, h.lt⟩
  rw [Lib.byteCells_append]
  exact Or.inr h1
theorem qbyte_length (c : UInt8) : (qbyte c).length ≤ 4 := by
  unfold qbyte
  split
  · simp
  · split <;> simp
theorem qflat_length (l : List UInt8) : (l.flatMap qbyte).length ≤ 4 * l.length := by
  induction l with
  | nil => simp
  | cons c l ih => have := qbyte_length c; simp only [List.flatMap_cons, List.length_append, List.length_cons]; omega
theorem hex_at (n : Nat) (h : n < 16) : (⟨#[48, 49, 50, 51, 52, 53, 54, 55, 56, 57, 97, 98, 99, 100, 101, 102]⟩ : ByteArray).data[n]? = some (hexd n) := by
  have : ∀ k : Fin 16, (⟨#[48, 49, 50, 51, 52, 53, 54, 55, 56, 57, 97, 98, 99, 100, 101, 102]⟩ : ByteArray).data[k.val]? = some (hexd k.val) := by decide +kernel
  exact this ⟨n, h⟩
theorem zero5 (w : World) : (zeroValue 5).run Try.prog w = .ok (.int .u8 0) w := by kernel_rfl
theorem wf_u8 (c : UInt8) : (Lit.int .u8 (c.toNat : Int)).wf = true := by
  have := c.toNat_lt
  have e0 : IntKind.u8.min = 0 := by decide
  have e1 : IntKind.u8.max = 255 := by decide
  simp [Lit.wf, e0, e1]
  omega
theorem lit_inj {a b : Int} (h : (DataW.lit (.int .u8 a) : DataW Unit) = .lit (.int .u8 b)) : a = b := by injection h with h; injection h
theorem short_byte {c x : Int} (h : short c = some x) : x = ((UInt8.ofNat x.toNat).toNat : Int) := by
  unfold short at h
  repeat' split at h
  all_goals first | (cases h; rfl) | cases h
theorem take_byte {s : ByteArray} {i : Nat} (h : i < s.size) : (s.data.toList.take (i + 1)).flatMap qbyte = (s.data.toList.take i).flatMap qbyte ++ qbyte (s[i]'h) := by
  rw [List.take_add_one, List.flatMap_append]
  have : s.data.toList[i]? = some (s[i]'h) := by rw [Array.getElem?_toList]; exact Array.getElem?_eq_getElem h
  rw [this]; simp
theorem hex_get (n : Nat) (h : n < 16) (h' : n < (⟨#[48, 49, 50, 51, 52, 53, 54, 55, 56, 57, 97, 98, 99, 100, 101, 102]⟩ : ByteArray).size) : (⟨#[48, 49, 50, 51, 52, 53, 54, 55, 56, 57, 97, 98, 99, 100, 101, 102]⟩ : ByteArray)[n]'h' = hexd n := by
  have := hex_at n h
  rw [Array.getElem?_eq_getElem h'] at this
  exact Option.some.inj this
set_option maxHeartbeats 4000000 in
set_option maxRecDepth 100000 in
theorem Quote_any (s : ByteArray) (hs : s.size ≤ 1099511627776) (w : World) : Calls Try.prog 8 #[.string s] w fun e w' => e = .returned (.string ⟨(qtext s).toArray⟩) ∧ Below w.heap.size w w' := by
  have hmm := @run_makeMap Try.prog
  go_enter Try.func8, Try.ntmps8
  go_wp2_with (with_reducible refine (named_any _).mono ?_)
  rintro e w1 ⟨rfl, o1, b1⟩
  have e1 : (w.alloc (.map #[] 0)).heap.size = w.heap.size + 1 := by simp
  rw [e1] at o1 b1 ⊢
  have m1 : Own w1 w.heap.size 0 (.map []) := Own.kept_below (World.ownsMap_made _ _ _ _) b1 (by omega)
  have bw1 : Below w.heap.size w w1 := ((Below.refl _ w).alloc (Nat.le_refl _) _).trans (b1.mono (by omega))
  have s1 := b1.size
  rw [e1] at s1
  go_wp2_with (first | (at_range; refine wpList_range_own _ rfl _ 31 rfl 5 5 law5 Try.underlying31 _ (w.heap.size + 1) 4 _ rfl o1 ?_; intro w0 hrg0 hg0 hs0) | go_in)
  go_frame
  go_loopw [] (fun wr => ∃ (left : Lit → Bool) (cnt n : Nat) (D : DataW Unit), wr.ranges Try.prog 5 (plainElem Try.prog 5) (w.heap.size + 1) w1.heap.size 4 namedD left cnt ∧ n + cnt ≤ 4 ∧ Own wr w.heap.size n D ∧ Hold left D ∧ Below w.heap.size w wr)
    (fun wr => wr.rangeLeft (w.heap.size + 1) w1.heap.size)
  case atStart =>
    exact ⟨_, _, 0, .map [], hrg0, by rw [namedD_size]; omega, m1.kept hg0 (by simp), Hold.start namedD_has, bw1.grown hg0 (by have := bw1.size; omega) (fun j hj => by cases hj)⟩
  case round =>
    obtain ⟨left, cnt, n, D, hrg, hcs, hout, hA, hnx⟩ := hrel
    go_wp2_with (first | (at_next; refine wpList_next_ranges_ii _ rfl _ rfl 5 5 .u8 .u8 law5 Try.underlying5 Try.underlying5 (w.heap.size + 1) w1.heap.size 4 _ _ _ rfl hrg ?_ ?_) | go_in)
    · intro hc0 hl0
      clear hmm
      have hD := hA.done hl0
      clear hA
      have hD' := Aside0.mk hD
      clear hD
      obtain ⟨wo, hwo⟩ : ∃ wo, wo = wr := ⟨wr, rfl⟩
      subst hwo
      go_wp2_with (with_reducible refine (Try.WriteByte_k wo.heap.size wo.heap.size [] 34 _ (Lib.IsBuilderF.of (Lib.fresh_isBuilder 35 5 wo)) (by simp) (by simp)).mono ?_)
      rintro e wb ⟨rfl, hb1, bb1, kb1⟩
      have hlt := hout.lt
      have q0 : QSt w wo D n [34] wb := ⟨Or.inr hb1, Own.others (World.ownsMap.alloc hout _) kb1 (by omega), (hnx.alloc hnx.size _).trans (bb1.mono (by omega)), by have := bb1.size; simp at this; omega, hlt⟩
      clear hb1 bb1 kb1 hnx hout hrg hcs
      go_wp2_with fail
      go_loopw [25] (fun v wl => ∃ i : Nat, v = .int .i64 i ∧ i ≤ s.size ∧ QSt w wo D n (34 :: (s.data.toList.take i).flatMap qbyte) wl) (fun v _ => s.size - (intOf v).toNat)
      case atStart =>
        exact ⟨0, rfl, Nat.zero_le _, q0⟩
      case round =>
        obtain ⟨i, rfl, hi, q⟩ := hrel
        have hal : (34 :: (s.data.toList.take i).flatMap qbyte).length ≤ 4398046511105 := by
          have := qflat_length (s.data.toList.take i)
          have h2 : (s.data.toList.take i).length ≤ i := List.length_take_le _ _
          simp only [List.length_cons]; omega
        generalize hacc : (34 :: (s.data.toList.take i).flatMap qbyte) = acc at q hal
        have Hacc := Aside0.mk hacc
        clear hacc
        by_cases hlt2 : i < s.size
        · cases hsh : short (s[i]'hlt2).toNat with
          | some x =>
            obtain ⟨h1, h2⟩ := hD'.out (s[i]'hlt2).toNat
            rw [hsh] at h1
            have h2' := Aside0.mk (h2 x hsh)
            clear h2
            have hx := Aside0.mk (short_byte hsh)
            have Hsh := Aside0.mk hsh
            clear hsh
            go_wp2_with (first | (at_lookup; refine wpList_lookup_own_ok_int _ rfl _ _ 31 rfl 5 5 .u8 law5 Try.underlying31 Try.underlying5 (zero5 _) w.heap.size n D rfl q.own _ _ rfl (Maps.keyOf_int_mk Try.underlying5 (wf_u8 _)) ?_; intro cL hat hwc; rw [h1]; obtain rfl := lit_inj (hat.symm.trans (h2'.out _)); clear hat) | (with_reducible refine (wbyte q (by omega) 92 92 rfl).mono ?_))
            rintro e w2 ⟨rfl, q2⟩
            go_wp2_with (first | (with_reducible refine (wbyte q2 (by simp; omega) _ (UInt8.ofNat cL.toNat) hx.out).mono ?_))
            rintro e w3 ⟨rfl, q3⟩
            go_wp2_with fail
            go_roundw
            case rel =>
              refine ⟨i + 1, rfl, hlt2, ?_⟩
              rw [take_byte hlt2, ← List.cons_append, Hacc.out]
              have : qbyte (s[i]'hlt2) = [92, UInt8.ofNat cL.toNat] := by unfold qbyte; rw [Hsh.out]
              rw [this]
              simpa using q3
            case measure => simp [intOf]; omega
          | none =>
            obtain ⟨h1, h2⟩ := hD'.out (s[i]'hlt2).toNat
            rw [hsh] at h1
            clear h2
            have Hsh := Aside0.mk hsh
            clear hsh
            by_cases hr : (s[i]'hlt2).toNat < 32 ∨ 126 < (s[i]'hlt2).toNat
            · have hq : qbyte (s[i]'hlt2) = [92, 120, hexd ((s[i]'hlt2).toNat / 16), hexd ((s[i]'hlt2).toNat % 16)] := by unfold qbyte; rw [Hsh.out]; exact if_pos hr
              have Hq := Aside0.mk hq
              clear hq
              rcases (show (s[i]'hlt2).toNat < 32 ∨ (¬ (s[i]'hlt2).toNat < 32 ∧ 126 < (s[i]'hlt2).toNat) by omega) with hr1 | ⟨hr1, hr2⟩
              · clear hr
                have hb256 : (s[i]'hlt2).toNat < 256 := (s[i]'hlt2).toNat_lt
                go_wp2_with (first | (at_lookup; refine wpList_lookup_own_ok_int _ rfl _ _ 31 rfl 5 5 .u8 law5 Try.underlying31 Try.underlying5 (zero5 _) w.heap.size n D rfl q.own _ _ rfl (Maps.keyOf_int_mk Try.underlying5 (wf_u8 _)) ?_; intro cL hat hwc; rw [h1]) | (with_reducible refine (wstring q (by omega) ⟨#[92, 120]⟩ (by decide)).mono ?_))
                intro e w2 he q2
                subst he
                go_wp2_with (with_reducible refine (wbyte q2 (by simp; omega) _ _ rfl).mono ?_)
                rintro e w3 ⟨rfl, q3⟩
                go_wp2_with (with_reducible refine (wbyte q3 (by simp; omega) _ _ rfl).mono ?_)
                rintro e w4 ⟨rfl, q4⟩
                go_wp2_with fail
                go_roundw
                case rel =>
                  refine ⟨i + 1, rfl, hlt2, ?_⟩
                  rw [take_byte hlt2, ← List.cons_append, Hacc.out, Hq.out]
                  rw [hex_get _ (by omega), hex_get _ (by omega)] at q4
                  simpa using q4
                case measure => simp [intOf]; omega
              · clear hr
                have hb256 : (s[i]'hlt2).toNat < 256 := (s[i]'hlt2).toNat_lt
                go_wp2_with (first | (at_lookup; refine wpList_lookup_own_ok_int _ rfl _ _ 31 rfl 5 5 .u8 law5 Try.underlying31 Try.underlying5 (zero5 _) w.heap.size n D rfl q.own _ _ rfl (Maps.keyOf_int_mk Try.underlying5 (wf_u8 _)) ?_; intro cL hat hwc; rw [h1]) | (with_reducible refine (wstring q (by omega) ⟨#[92, 120]⟩ (by decide)).mono ?_))
                intro e w2 he q2
                subst he
                go_wp2_with (with_reducible refine (wbyte q2 (by simp; omega) _ _ rfl).mono ?_)
                rintro e w3 ⟨rfl, q3⟩
                go_wp2_with (with_reducible refine (wbyte q3 (by simp; omega) _ _ rfl).mono ?_)
                rintro e w4 ⟨rfl, q4⟩
                go_wp2_with fail
                go_roundw
                case rel =>
                  refine ⟨i + 1, rfl, hlt2, ?_⟩
                  rw [take_byte hlt2, ← List.cons_append, Hacc.out, Hq.out]
                  rw [hex_get _ (by omega), hex_get _ (by omega)] at q4
                  simpa using q4
                case measure => simp [intOf]; omega
            · have hq : qbyte (s[i]'hlt2) = [s[i]'hlt2] := by unfold qbyte; rw [Hsh.out]; exact if_neg hr
              have Hq := Aside0.mk hq
              clear hq
              go_wp2_with (first | (at_lookup; refine wpList_lookup_own_ok_int _ rfl _ _ 31 rfl 5 5 .u8 law5 Try.underlying31 Try.underlying5 (zero5 _) w.heap.size n D rfl q.own _ _ rfl (Maps.keyOf_int_mk Try.underlying5 (wf_u8 _)) ?_; intro cL hat hwc; rw [h1]) | (with_reducible refine (wbyte q (by omega) _ (s[i]'hlt2) rfl).mono ?_))
              rintro e w2 ⟨rfl, q2⟩
              go_wp2_with fail
              go_roundw
              case rel =>
                refine ⟨i + 1, rfl, hlt2, ?_⟩
                rw [take_byte hlt2, ← List.cons_append, Hacc.out, Hq.out]
                exact q2
              case measure => simp [intOf]; omega
        · go_wp2_with (first | (with_reducible refine (wbyte q (by omega) 34 34 rfl).mono ?_))
          rintro e w2 ⟨rfl, q2⟩
          go_wp2_with (first | (with_reducible refine (Try.Builder_String_any_k wo.heap.size wo.heap.size _ _ q2.bld q2.size).mono ?_))
          rintro e w3 ⟨rfl, _, b3, _⟩
          go_wp2_with fail
          go_ret
          have he : i = s.size := by omega
          have ht : s.data.toList.take i = s.data.toList := List.take_of_length_le (by rw [he]; exact Nat.le_refl _)
          refine ⟨?_, q2.below.trans (b3.mono (by have := q.lt; omega))⟩
          unfold qtext
          rw [← ht, Hacc.out]
          rfl
    · intro x c w2 cnt2 hwx hwc hlx hat hrg1 hlt hg1 hs1 hen
      have hlong := namedD_entry hat
      have hout1 := hout.kept hg1 (by simp; omega)
      go_wp2_with (first
        | (at_mapUpdate; refine wpList_mapUpdate_own _ rfl _ _ _ 31 rfl 5 5 law5 Try.underlying31 _ w.heap.size _ _ rfl hout1 (by unfold maxLen; omega) _ _ _ rfl rfl (Maps.keyOf_int_mk Try.underlying5 hwc) _ [] (plainElem_int Try.underlying5 hwx) ?_; intro w3 hout2 hg2; go_frame)
        | go_in)
      have hrg2 := hrg1.kept hg2 (fun e => by have := Option.some.inj e; omega) (fun e => by have := Option.some.inj e; omega)
      go_roundw
      case rel =>
        exact ⟨_, cnt2, n + 1, _, hrg2, by omega, hout2, hA.step hlong, (hnx.grown hg1 hnx.size (fun j hj => by cases hj; omega)).grown hg2 (by have := hnx.size; omega) (fun j hj => by cases hj; exact Nat.le_refl _)⟩
      case measure => rw [hrg2.left_eq, hrg.left_eq]; exact hlt
/-! Unquote -/
theorem info5 : (Try.prog.info? 5).map (fun i => (i.zero, i.size, i.bytes)) = some (some (.int .u8 0), 1, 1) := by kernel_rfl
def digitD (c : Int) : Int := if 48 ≤ c ∧ c ≤ 57 then c - 48 else if 97 ≤ c ∧ c ≤ 102 then c - 97 + 10 else -1
theorem digit_any (c : Int) (h0 : 0 ≤ c) (h1 : c ≤ 255) (w : World) : Calls Try.prog 20 #[.int .i32 c] w fun e w' => e = .returned (.int .i64 (digitD c)) ∧ Drawn0 w w' := by
  go_enter Try.func20, Try.ntmps20
  by_cases a1 : 48 ≤ c <;> by_cases a2 : c ≤ 57 <;> by_cases a3 : 97 ≤ c <;> by_cases a4 : c ≤ 102 <;>
    (first
      | (have hd : digitD c = c - 48 := if_pos ⟨a1, a2⟩; rw [hd]; go_wp2; go_ret; exact ⟨rfl, Drawn0.refl _⟩)
      | (have hd : digitD c = c - 97 + 10 := (if_neg (fun h => by omega)).trans (if_pos ⟨a3, a4⟩); rw [hd]; go_wp2; go_ret; exact ⟨rfl, Drawn0.refl _⟩)
      | (have hd : digitD c = -1 := (if_neg (fun h => by omega)).trans (if_neg (fun h => by omega)); rw [hd]; go_wp2; go_ret; exact ⟨rfl, Drawn0.refl _⟩)
      | (exfalso; omega))
def ustep (u : ByteArray) : Option (Int × Int) :=
  if bt u 0 < 32 ∨ bt u 0 > 126 ∨ bt u 0 = 34 ∨ (bt u 0 = 92 ∧ u.size < 2) then none
  else if bt u 0 = 92 then
    (if bt u 1 = 120 then
      (if u.size < 4 ∨ digitD (bt u 2) < 0 ∨ digitD (bt u 3) < 0 then none else some (digitD (bt u 2) * 16 + digitD (bt u 3), 4))
    else (longOf (bt u 1)).map fun c => (c, 2))
  else some (bt u 0, 1)
def unq : Nat → ByteArray → List Int → Option (ByteArray × Int)
  | 0, _, _ => none
  | k + 1, u, acc => if u.size = 0 then (if acc.length > 4096 then some (⟨#[]⟩, 3) else some (strOfNums acc, 0)) else
      match ustep u with
      | none => some (⟨#[]⟩, 4)
      | some (c, n) => if acc.length < 140737488355328 then unq k (u.extract n.toNat u.size) (acc ++ [c]) else none
def unquote.f (k : Nat) (q : ByteArray) : Option (ByteArray × Int) :=
  if Lib.hasPrefix q.data.toList [34] = true ∧ Lib.hasSuffix (Lib.trimPrefix q.data.toList [34]) [34] = true then
    unq k ⟨(Lib.trimSuffix (Lib.trimPrefix q.data.toList [34]) [34]).toArray⟩ [] else some (⟨#[]⟩, 4)
theorem cutP (a0 : ByteArray) (w : World) : Calls Try.prog 18 #[.string a0, .string ⟨#[34]⟩] w fun e w' => e = .returned (.tuple #[.string ⟨(Lib.trimPrefix a0.data.toList [34]).toArray⟩, .bool (Lib.hasPrefix a0.data.toList [34])]) ∧ w' = w := Try.strings_CutPrefix a0 ⟨#[34]⟩ w
theorem cutS (T : List UInt8) (hT : T.length ≤ 9223372036854775807) (w : World) : Calls Try.prog 19 #[.string ⟨T.toArray⟩, .string ⟨#[34]⟩] w fun e w' => e = .returned (.tuple #[.string ⟨(Lib.trimSuffix T [34]).toArray⟩, .bool (Lib.hasSuffix T [34])]) ∧ w' = w := Try.strings_CutSuffix ⟨T.toArray⟩ ⟨#[34]⟩ w (by simpa [ByteArray.size] using hT)
theorem digitD_lt (c : Int) : digitD c < 16 := by
  unfold digitD
  split
  · omega
  · split <;> omega
theorem hexor (a b : Int) (h0 : 0 ≤ a) (h1 : a < 16) (h2 : 0 ≤ b) (h3 : b < 16) : bits BinOp.or IntKind.i64 (wrap64 (a * 16)) b % 256 = a * 16 + b := by
  have : ∀ i j : Fin 16, bits BinOp.or IntKind.i64 (wrap64 ((i.val : Int) * 16)) (j.val : Int) % 256 = (i.val : Int) * 16 + (j.val : Int) := by decide +kernel
  obtain ⟨i, rfl⟩ := Int.eq_ofNat_of_zero_le h0
  obtain ⟨j, rfl⟩ := Int.eq_ofNat_of_zero_le h2
  exact this ⟨i, by omega⟩ ⟨j, by omega⟩
theorem wf_u8b {x : Int} (h : 0 ≤ x ∧ x ≤ 255) : (Lit.int .u8 x).wf = true := by
  have e0 : IntKind.u8.min = 0 := by decide
  have e1 : IntKind.u8.max = 255 := by decide
  simp [Lit.wf, e0, e1]
  omega
theorem wp_scope_jumps2 {P : Program} {a : Act} {w : World} {Q : Exit → Act → World → Prop} {c rest : Code} (l : Nat) (J : Act → World → Prop) (μ : Act → World → Nat) (hf : findLabel c l = some (Code.skip.seq rest))
    (pass : ∀ a w, J a w → rest.wp P (Exit.jump l (fun a' w' => J a' w' ∧ μ a' w' < μ a w) Q) a w)
    (first : (∀ a w, J a w → rest.wp P (Exit.jump l J Q) a w) → c.wp P (Exit.jump l J Q) a w) : (Code.scope c).wp P Q a w := by
  refine wp_scope_jumps l J μ hf (first fun a w h b k cs => ?_) (fun a w h => wp_seq (wp_skip (pass a w h)))
  obtain ⟨e, a', w', hq, harr⟩ := pass a w h b k cs
  refine ⟨e, a', w', ?_, harr⟩
  cases e <;> first | exact hq | exact ⟨hq.1, hq.2.1⟩
def strSize : Value → Nat | .string s => s.size | _ => 0
structure USt (wn : World) (nb : Nat) (u : ByteArray) (acc : List Int) (v8 : Value) (kq : Nat) (r1 : ByteArray) (r2 : Int) (wl : World) : Prop where
  go : unq kq u acc = some (r1, r2)
  row : Kd.R (Kd.int .u8) 5 wl wn.heap.size (fun _ => True) v8 acc
  below : Below wn.heap.size wn wl
theorem frame112 (a : Act) (hd : a.defers = []) (hs : a.tmps.size = 112) : ∃ x : Nat → Value, (∀ n, x n = a.tmps.getD n undef) ∧ a = { tmps := #[x 0, x 1, x 2, x 3, x 4, x 5, x 6, x 7, x 8, x 9, x 10, x 11, x 12, x 13, x 14, x 15, x 16, x 17, x 18, x 19, x 20, x 21, x 22, x 23, x 24, x 25, x 26, x 27, x 28, x 29, x 30, x 31, x 32, x 33, x 34, x 35, x 36, x 37, x 38, x 39, x 40, x 41, x 42, x 43, x 44, x 45, x 46, x 47, x 48, x 49, x 50, x 51, x 52, x 53, x 54, x 55, x 56, x 57, x 58, x 59, x 60, x 61, x 62, x 63, x 64, x 65, x 66, x 67, x 68, x 69, x 70, x 71, x 72, x 73, x 74, x 75, x 76, x 77, x 78, x 79, x 80, x 81, x 82, x 83, x 84, x 85, x 86, x 87, x 88, x 89, x 90, x 91, x 92, x 93, x 94, x 95, x 96, x 97, x 98, x 99, x 100, x 101, x 102, x 103, x 104, x 105, x 106, x 107, x 108, x 109, x 110, x 111], defers := [] } := by
  obtain ⟨t, d⟩ := a
  dsimp only at hd hs ⊢
  subst hd
  refine ⟨fun n => t.getD n undef, fun _ => rfl, ?_⟩
  generalize hx : (fun n => t.getD n undef) = x
  have key : t = ((List.range 112).map x).toArray := by
    apply Array.ext
    · simp [hs]
    · intro i h1 h2
      subst hx
      simp [Array.getD, h1]
  rw [key]
  rfl
set_option maxHeartbeats 4000000 in
set_option maxRecDepth 100000 in
theorem unquote.calls (k : Nat) (a0 : ByteArray) (hq : a0.size ≤ 9223372036854775807) (r1 : ByteArray) (r2 : Int) (w : World) (h : unquote.f k a0 = some (r1, r2)) :
    Calls Try.prog 11 #[.string a0] w fun e w' => e = .returned (.tuple #[.string r1, .int .i64 r2]) ∧ Below w.heap.size w w' := by
  have htl : (Lib.trimPrefix a0.data.toList [34]).length ≤ 9223372036854775807 := by
    have e : a0.data.toList.length = a0.size := Array.length_toList
    unfold Lib.trimPrefix
    split
    · rw [List.length_drop]; omega
    · omega
  have HH := Aside0.mk h
  clear h
  go_enter Try.func11, Try.ntmps11
  go_wp2_with fail
  by_cases hps : Lib.hasPrefix a0.data.toList [34] = true ∧ Lib.hasSuffix (Lib.trimPrefix a0.data.toList [34]) [34] = true
  · have HH' : unq k ⟨(Lib.trimSuffix (Lib.trimPrefix a0.data.toList [34]) [34]).toArray⟩ [] = some (r1, r2) := by have := HH.out; unfold unquote.f at this; rw [if_pos hps] at this; exact this
    clear HH
    have HH := Aside0.mk HH'
    clear HH'
    obtain ⟨hp, hs⟩ := hps
    refine wp_scope_jumps2 0 (fun a' w' => a'.defers = [] ∧ a'.tmps.size = 112 ∧ a'.tmps.getD 0 undef = .string a0 ∧ a'.tmps.getD 1 undef = undef ∧ a'.tmps.getD 2 undef = .string ⟨#[]⟩ ∧ a'.tmps.getD 3 undef = .int .i64 0 ∧ a'.tmps.getD 7 undef = .map (some w.heap.size) ∧ ∃ (u : ByteArray) (acc : List Int) (v8 : Value) (kq : Nat) (wn : World), a'.tmps.getD 4 undef = .string u ∧ a'.tmps.getD 8 undef = v8 ∧ Own wn w.heap.size 4 namedD ∧ Below w.heap.size w wn ∧ USt wn w.heap.size u acc v8 kq r1 r2 w') (fun a' _ => strSize (a'.tmps.getD 4 undef)) rfl ?_ ?_
    · rintro a' wl ⟨hdf, hsz, e0, e1, e2, e3, e7, u, acc, v8, kq, wn, e4, e8, on, bn, hst⟩
      obtain ⟨x, hx, rfl⟩ := frame112 a' hdf hsz
      rw [show x 0 = .string a0 from (hx 0).trans e0, show x 1 = undef from (hx 1).trans e1, show x 2 = .string ⟨#[]⟩ from (hx 2).trans e2, show x 3 = .int .i64 0 from (hx 3).trans e3, show x 4 = .string u from (hx 4).trans e4, show x 7 = .map (some w.heap.size) from (hx 7).trans e7, show x 8 = v8 from (hx 8).trans e8]
      clear hx hdf hsz e0 e1 e2 e3 e7 e4 e8
      obtain ⟨hgo, hrow, hbel⟩ := hst
      cases kq with
      | zero => cases hgo
      | succ kq =>
        have H : (if u.size = 0 then (if acc.length > 4096 then some ((⟨#[]⟩ : ByteArray), (3 : Int)) else some (strOfNums acc, 0)) else match ustep u with
          | none => some (⟨#[]⟩, 4)
          | some (c, n) => if acc.length < 140737488355328 then unq kq (u.extract n.toNat u.size) (acc ++ [c]) else none) = some (r1, r2) := hgo
        clear hgo
        have HH := Aside0.mk H
        clear H
        have HROW := Aside0.mk hrow
        have HBEL := Aside0.mk hbel
        have HON := Aside0.mk (Own.kept_below on hbel on.lt)
        have HBN := Aside0.mk bn
        have hwl := hbel.size
        clear hrow hbel bn
        by_cases hu : u.size = 0
        · have hue : u = ⟨#[]⟩ := by
            obtain ⟨d⟩ := u
            have : d.size = 0 := hu
            rw [Array.size_eq_zero_iff] at this
            rw [this]
          have H := HH.out
          rw [if_pos hu] at H
          subst hue
          obtain ⟨A, cp, rfl⟩ := Kd.R_slice HROW.out
          by_cases hl : acc.length > 4096
          · rw [if_pos hl] at H
            obtain ⟨rfl, rfl⟩ := Prod.mk.inj (Option.some.inj H)
            clear H HH
            go_wp2_with fail
            (try simp only [Exit.jump])
            go_ret2
            exact ⟨rfl, HBN.out.trans (HBEL.out.mono (Nat.le_of_lt on.lt))⟩
          · rw [if_neg hl] at H
            obtain ⟨rfl, rfl⟩ := Prod.mk.inj (Option.some.inj H)
            clear H HH
            have hcv := own_string (P := Try.prog) Try.underlying30 Try.underlying5 Try.underlying9 (Kd.own_of_R HROW.out)
            go_wp2_with fail
            (try simp only [Exit.jump])
            go_ret2
            exact ⟨rfl, HBN.out.trans (HBEL.out.mono (Nat.le_of_lt on.lt))⟩
        · have H := HH.out
          rw [if_neg hu] at H
          clear HH
          have hu0 : 0 < u.size := Nat.pos_of_ne_zero hu
          have hne : u.toList.isEmpty = false := (decide_eq_emptyBytes u).symm.trans (decide_eq_false (fun h => hu (by rw [h]; rfl)))
          have r0 := bt_range u 0
          have hx0 : ∀ h : 0 < u.size, ((u[0]'h).toNat : Int) = bt u 0 := bt_at u 0
          have qi0 : (0 < (u.size : Int)) = True := eq_true (by omega)
          replace hu0 := eq_true hu0
          have HR0 := Aside0.mk r0
          by_cases cA : bt u 0 < 32 ∨ bt u 0 > 126 ∨ bt u 0 = 34 ∨ (bt u 0 = 92 ∧ u.size < 2)
          · have hs : ustep u = none := if_pos cA
            rw [hs] at H
            obtain ⟨rfl, rfl⟩ := Prod.mk.inj (Option.some.inj H)
            clear H hs
            rcases cA with cA | cA | cA | ⟨cA, cB⟩
            · go_wp2_with fail
              (try simp only [Exit.jump])
              go_ret2
              exact ⟨rfl, HBN.out.trans (HBEL.out.mono (Nat.le_of_lt on.lt))⟩
            · go_wp2_with fail
              (try simp only [Exit.jump])
              go_ret2
              exact ⟨rfl, HBN.out.trans (HBEL.out.mono (Nat.le_of_lt on.lt))⟩
            · go_wp2_with fail
              (try simp only [Exit.jump])
              go_ret2
              exact ⟨rfl, HBN.out.trans (HBEL.out.mono (Nat.le_of_lt on.lt))⟩
            · go_wp2_with fail
              (try simp only [Exit.jump])
              go_ret2
              exact ⟨rfl, HBN.out.trans (HBEL.out.mono (Nat.le_of_lt on.lt))⟩
          · have hu0' : 0 < u.size := of_eq_true hu0
            by_cases cC : bt u 0 = 92
            · have hsz : 2 ≤ u.size := by omega
              have HR1 := Aside0.mk (bt_range u 1)
              have hx1 : ∀ h : 1 < u.size, ((u[1]'h).toNat : Int) = bt u 1 := bt_at u 1
              have hu1 : (1 < u.size) = True := eq_true (by omega)
              have qi1 : (1 < (u.size : Int)) = True := eq_true (by omega)
              by_cases cD : bt u 1 = 120
              · have HR2 := Aside0.mk (bt_range u 2)
                have HR3 := Aside0.mk (bt_range u 3)
                by_cases cE : u.size < 4 ∨ digitD (bt u 2) < 0 ∨ digitD (bt u 3) < 0
                · have hs : ustep u = none := by unfold ustep; rw [if_neg cA, if_pos cC, if_pos cD, if_pos cE]
                  rw [hs] at H
                  obtain ⟨rfl, rfl⟩ := Prod.mk.inj (Option.some.inj H)
                  clear H hs
                  by_cases c4 : u.size < 4
                  · clear cE
                    go_wp2_with fail
                    (try simp only [Exit.jump])
                    go_ret2
                    refine ⟨rfl, HBN.out.trans (Below.mono (B := wn.heap.size) ?_ (Nat.le_of_lt on.lt))⟩
                    repeat (first | exact HBEL.out | apply below_alloc | apply pw_below_drewN | apply below_drew1)
                  · have hx2 : ∀ h : 2 < u.size, ((u[2]'h).toNat : Int) = bt u 2 := bt_at u 2
                    have hu2 : (2 < u.size) = True := eq_true (by omega)
                    have qi2 : (2 < (u.size : Int)) = True := eq_true (by omega)
                    have hx3 : ∀ h : 3 < u.size, ((u[3]'h).toNat : Int) = bt u 3 := bt_at u 3
                    have hu3 : (3 < u.size) = True := eq_true (by omega)
                    have qi3 : (3 < (u.size : Int)) = True := eq_true (by omega)
                    have r2' := HR2.out
                    have r3' := HR3.out
                    by_cases d2 : digitD (bt u 2) < 0
                    · clear cE
                      go_wp2_with (first | (go_at_call 20; (with_reducible refine (digit_any (bt u 2) HR2.out.1 HR2.out.2 _).mono ?_); rintro e w' ⟨rfl, ⟨nd, rfl⟩⟩; (try first | exact ⟨rfl, _, World.drewN_drewN _ _ _⟩ | exact ⟨rfl, _, Eq.trans (World.drewN_drewN _ _ _) (congrArg (World.drewN _) (Nat.add_assoc _ _ _))⟩)) | (go_at_call 20; (with_reducible refine (digit_any (bt u 3) HR3.out.1 HR3.out.2 _).mono ?_); rintro e w' ⟨rfl, ⟨nd, rfl⟩⟩; (try first | exact ⟨rfl, _, World.drewN_drewN _ _ _⟩ | exact ⟨rfl, _, Eq.trans (World.drewN_drewN _ _ _) (congrArg (World.drewN _) (Nat.add_assoc _ _ _))⟩)))
                      (try simp only [Exit.jump])
                      go_ret2
                      refine ⟨rfl, HBN.out.trans (Below.mono (B := wn.heap.size) ?_ (Nat.le_of_lt on.lt))⟩
                      repeat (first | exact HBEL.out | apply below_alloc | apply pw_below_drewN | apply below_drew1)
                    · have d3 : digitD (bt u 3) < 0 := by omega
                      clear cE
                      go_wp2_with (first | (go_at_call 20; (with_reducible refine (digit_any (bt u 2) HR2.out.1 HR2.out.2 _).mono ?_); rintro e w' ⟨rfl, ⟨nd, rfl⟩⟩; (try first | exact ⟨rfl, _, World.drewN_drewN _ _ _⟩ | exact ⟨rfl, _, Eq.trans (World.drewN_drewN _ _ _) (congrArg (World.drewN _) (Nat.add_assoc _ _ _))⟩)) | (go_at_call 20; (with_reducible refine (digit_any (bt u 3) HR3.out.1 HR3.out.2 _).mono ?_); rintro e w' ⟨rfl, ⟨nd, rfl⟩⟩; (try first | exact ⟨rfl, _, World.drewN_drewN _ _ _⟩ | exact ⟨rfl, _, Eq.trans (World.drewN_drewN _ _ _) (congrArg (World.drewN _) (Nat.add_assoc _ _ _))⟩)))
                      (try simp only [Exit.jump])
                      go_ret2
                      refine ⟨rfl, HBN.out.trans (Below.mono (B := wn.heap.size) ?_ (Nat.le_of_lt on.lt))⟩
                      repeat (first | exact HBEL.out | apply below_alloc | apply pw_below_drewN | apply below_drew1)
                · have hs : ustep u = some (digitD (bt u 2) * 16 + digitD (bt u 3), 4) := by unfold ustep; rw [if_neg cA, if_pos cC, if_pos cD, if_neg cE]
                  have HS := Aside0.mk hs
                  clear hs
                  have hx2 : ∀ h : 2 < u.size, ((u[2]'h).toNat : Int) = bt u 2 := bt_at u 2
                  have hu2 : (2 < u.size) = True := eq_true (by omega)
                  have qi2 : (2 < (u.size : Int)) = True := eq_true (by omega)
                  have hx3 : ∀ h : 3 < u.size, ((u[3]'h).toNat : Int) = bt u 3 := bt_at u 3
                  have hu3 : (3 < u.size) = True := eq_true (by omega)
                  have qi3 : (3 < (u.size : Int)) = True := eq_true (by omega)
                  have r2' := HR2.out
                  have r3' := HR3.out
                  have h4 : 4 ≤ u.size := by omega
                  have d2 : decide (digitD (bt u 2) < 0) = false := decide_eq_false (by omega)
                  have d3 : decide (digitD (bt u 3) < 0) = false := decide_eq_false (by omega)
                  have d4 : decide ((u.size : Int) < 4) = false := decide_eq_false (by omega)
                  clear cE
                  go_wp2_with (first | (go_at_call 20; (with_reducible refine (digit_any (bt u 2) HR2.out.1 HR2.out.2 _).mono ?_); rintro e w' ⟨rfl, ⟨nd, rfl⟩⟩; (try first | exact ⟨rfl, _, World.drewN_drewN _ _ _⟩ | exact ⟨rfl, _, Eq.trans (World.drewN_drewN _ _ _) (congrArg (World.drewN _) (Nat.add_assoc _ _ _))⟩)) | (go_at_call 20; (with_reducible refine (digit_any (bt u 3) HR3.out.1 HR3.out.2 _).mono ?_); rintro e w' ⟨rfl, ⟨nd, rfl⟩⟩; (try first | exact ⟨rfl, _, World.drewN_drewN _ _ _⟩ | exact ⟨rfl, _, Eq.trans (World.drewN_drewN _ _ _) (congrArg (World.drewN _) (Nat.add_assoc _ _ _))⟩)))
                  repeat (go_quiet (first | (go_at_call 20; (with_reducible refine (digit_any (bt u 2) HR2.out.1 HR2.out.2 _).mono ?_); rintro e w' ⟨rfl, ⟨nd, rfl⟩⟩; (try first | exact ⟨rfl, _, World.drewN_drewN _ _ _⟩ | exact ⟨rfl, _, Eq.trans (World.drewN_drewN _ _ _) (congrArg (World.drewN _) (Nat.add_assoc _ _ _))⟩)) | (go_at_call 20; (with_reducible refine (digit_any (bt u 3) HR3.out.1 HR3.out.2 _).mono ?_); rintro e w' ⟨rfl, ⟨nd, rfl⟩⟩; (try first | exact ⟨rfl, _, World.drewN_drewN _ _ _⟩ | exact ⟨rfl, _, Eq.trans (World.drewN_drewN _ _ _) (congrArg (World.drewN _) (Nat.add_assoc _ _ _))⟩))))
                  rw [hexor _ _ (by have := of_decide_eq_false d2; omega) (digitD_lt _) (by have := of_decide_eq_false d3; omega) (digitD_lt _)]
                  generalize hcv : digitD (bt u 2) * 16 + digitD (bt u 3) = cv at HS ⊢
                  have hs := HS.out
                  clear HS
                  by_cases hL0 : acc.length < 140737488355328
                  · rw [hs] at H
                    have H' : unq kq (u.extract 4 u.size) (acc ++ [cv]) = some (r1, r2) := by have := H; simp only [] at this; rw [if_pos hL0] at this; exact this
                    have HU := Aside0.mk H'
                    have hL := Aside0.mk hL0
                    clear H H' hs hL0
                    go_wp2_with ((with_reducible refine gate_builtin (b := .append) (xs := #[.tmp 105, .tmp 107]) rfl ?_); (try (refine gate_guard (by rfl) ?_; dsimp only)); at_builtin; refine Kd.R_append (Kd.int .u8) (w0 := wn) wn.heap.size rfl (.tmp 105) (.tmp 107) 30 5 (.int .u8 0) 1 rfl Try.underlying30 info5 rfl (by decide) (by omega) v8 acc (cv) [.int .u8 (cv)] (fun _ => True) (fun _ => False) rfl rfl ?aP (fun _ hk => hk.elim) ?aF ?aO ?aB ?aS ?aL ?_; (case aP => exact rfl); (case aB => exact (by repeat (first | exact HBEL.out | apply below_alloc | apply pw_below_drewN | apply below_drew1))); (case aF => exact (fun _ _ => trivial)); (case aO => exact (by (with_reducible repeat (first | apply Kd.R_alloc | apply Kd.R_drewN | apply Kd.R_drew)); exact HROW.out)); (case aS => exact (below_size (by repeat (first | exact HBEL.out | apply below_alloc | apply pw_below_drewN | apply below_drew1)))); (case aL => have := hL.out; omega); intro v1 w20 ho hb hg hat; have HO1 := Aside0.mk ho; have HB1 := Aside0.mk hb; clear ho hb hg hat)
                    go_step3
                    refine ⟨rfl, ⟨rfl, rfl, rfl, rfl, rfl, rfl, rfl, _, _, _, kq, wn, rfl, rfl, on, HBN.out, ⟨HU.out, HO1.out, HB1.out⟩⟩, ?_⟩
                    show (u.extract 4 u.size).size < u.size
                    rw [ByteArray.size_extract]; omega
                  · rw [hs] at H
                    exfalso; have := H; simp only [] at this; rw [if_neg hL0] at this; cases this
              · cases hlo : longOf (bt u 1) with
                | none =>
                  have hs : ustep u = none := by unfold ustep; rw [if_neg cA, if_pos cC, if_neg cD, hlo]; rfl
                  rw [hs] at H
                  obtain ⟨rfl, rfl⟩ := Prod.mk.inj (Option.some.inj H)
                  clear H hs
                  have hmiss : Maps.has namedD (.int .u8 (bt u 1)) = false := by
                    apply Maps.has_false_of_atKey; intro z; rw [namedD_at, hlo]
                  have HL := Aside0.mk hlo
                  clear hlo
                  go_wp2_with (first | (at_lookup; refine wpList_lookup_own_ok_int _ rfl _ _ 31 rfl 5 5 .u8 law5 Try.underlying31 Try.underlying5 (zero5 _) w.heap.size 4 namedD rfl HON.out _ _ rfl (Maps.keyOf_int_mk Try.underlying5 (wf_u8b (bt_range u 1))) ?_; intro cL hat hwc; rw [hmiss]; clear hat hwc))
                  (try simp only [Exit.jump])
                  go_ret2
                  refine ⟨rfl, HBN.out.trans (Below.mono (B := wn.heap.size) ?_ (Nat.le_of_lt on.lt))⟩
                  repeat (first | exact HBEL.out | apply below_alloc | apply pw_below_drewN | apply below_drew1)
                | some c =>
                  have hs : ustep u = some (c, 2) := by unfold ustep; rw [if_neg cA, if_pos cC, if_neg cD, hlo]; rfl
                  have hhit : Maps.has namedD (.int .u8 (bt u 1)) = true := namedD_has _ _ hlo
                  have hval : ∀ z, namedD.atKey (.int .u8 (bt u 1)) z = .lit (.int .u8 c) := by intro z; rw [namedD_at, hlo]
                  have HV := Aside0.mk hval
                  have HL := Aside0.mk hlo
                  clear hlo hval
                  by_cases hL0 : acc.length < 140737488355328
                  · rw [hs] at H
                    have H' : unq kq (u.extract 2 u.size) (acc ++ [c]) = some (r1, r2) := by have := H; simp only [] at this; rw [if_pos hL0] at this; exact this
                    have HU := Aside0.mk H'
                    have hL := Aside0.mk hL0
                    clear H H' hs hL0
                    go_wp2_with (first | (at_lookup; refine wpList_lookup_own_ok_int _ rfl _ _ 31 rfl 5 5 .u8 law5 Try.underlying31 Try.underlying5 (zero5 _) w.heap.size 4 namedD rfl HON.out _ _ rfl (Maps.keyOf_int_mk Try.underlying5 (wf_u8b (bt_range u 1))) ?_; intro cL hat hwc; rw [hhit]; obtain rfl := lit_inj (hat.symm.trans (HV.out _)); clear hat hwc) | ((with_reducible refine gate_builtin (b := .append) (xs := #[.tmp 105, .tmp 107]) rfl ?_); (try (refine gate_guard (by rfl) ?_; dsimp only)); at_builtin; refine Kd.R_append (Kd.int .u8) (w0 := wn) wn.heap.size rfl (.tmp 105) (.tmp 107) 30 5 (.int .u8 0) 1 rfl Try.underlying30 info5 rfl (by decide) (by omega) v8 acc (cL) [.int .u8 (cL)] (fun _ => True) (fun _ => False) rfl rfl ?aP (fun _ hk => hk.elim) ?aF ?aO ?aB ?aS ?aL ?_; (case aP => exact rfl); (case aB => exact (by repeat (first | exact HBEL.out | apply below_alloc | apply pw_below_drewN | apply below_drew1))); (case aF => exact (fun _ _ => trivial)); (case aO => exact (by (with_reducible repeat (first | apply Kd.R_alloc | apply Kd.R_drewN | apply Kd.R_drew)); exact HROW.out)); (case aS => exact (below_size (by repeat (first | exact HBEL.out | apply below_alloc | apply pw_below_drewN | apply below_drew1)))); (case aL => have := hL.out; omega); intro v1 w20 ho hb hg hat; have HO1 := Aside0.mk ho; have HB1 := Aside0.mk hb; clear ho hb hg hat))
                    go_step3
                    refine ⟨rfl, ⟨rfl, rfl, rfl, rfl, rfl, rfl, rfl, _, _, _, kq, wn, rfl, rfl, on, HBN.out, ⟨HU.out, HO1.out, HB1.out⟩⟩, ?_⟩
                    show (u.extract 2 u.size).size < u.size
                    rw [ByteArray.size_extract]; omega
                  · rw [hs] at H
                    exfalso; have := H; simp only [] at this; rw [if_neg hL0] at this; cases this
            · have hs : ustep u = some (bt u 0, 1) := by unfold ustep; rw [if_neg cA, if_neg cC]
              by_cases hL0 : acc.length < 140737488355328
              · rw [hs] at H
                have H' : unq kq (u.extract 1 u.size) (acc ++ [bt u 0]) = some (r1, r2) := by have := H; simp only [] at this; rw [if_pos hL0] at this; exact this
                have HU := Aside0.mk H'
                have hL := Aside0.mk hL0
                clear H H' hs hL0
                have a1 : decide (bt u 0 < 32) = false := decide_eq_false (by omega)
                have a2 : decide (126 < bt u 0) = false := decide_eq_false (by omega)
                have a3 : (bt u 0 == 34) = false := beq_eq_false_iff_ne.mpr (by omega)
                have a4 : (bt u 0 == 92) = false := beq_eq_false_iff_ne.mpr cC
                have a5 := HR0.out
                go_wp2_with ((with_reducible refine gate_builtin (b := .append) (xs := #[.tmp 105, .tmp 107]) rfl ?_); (try (refine gate_guard (by rfl) ?_; dsimp only)); at_builtin; refine Kd.R_append (Kd.int .u8) (w0 := wn) wn.heap.size rfl (.tmp 105) (.tmp 107) 30 5 (.int .u8 0) 1 rfl Try.underlying30 info5 rfl (by decide) (by omega) v8 acc (bt u 0) [.int .u8 (bt u 0)] (fun _ => True) (fun _ => False) rfl rfl ?aP (fun _ hk => hk.elim) ?aF ?aO ?aB ?aS ?aL ?_; (case aP => exact rfl); (case aB => exact (by repeat (first | exact HBEL.out | apply below_alloc | apply pw_below_drewN | apply below_drew1))); (case aF => exact (fun _ _ => trivial)); (case aO => exact (by (with_reducible repeat (first | apply Kd.R_alloc | apply Kd.R_drewN | apply Kd.R_drew)); exact HROW.out)); (case aS => exact (below_size (by repeat (first | exact HBEL.out | apply below_alloc | apply pw_below_drewN | apply below_drew1)))); (case aL => have := hL.out; omega); intro v1 w20 ho hb hg hat; have HO1 := Aside0.mk ho; have HB1 := Aside0.mk hb; clear ho hb hg hat)
                go_step3
                refine ⟨rfl, ⟨rfl, rfl, rfl, rfl, rfl, rfl, rfl, _, _, _, kq, wn, rfl, rfl, on, HBN.out, ⟨HU.out, HO1.out, HB1.out⟩⟩, ?_⟩
                show (u.extract 1 u.size).size < u.size
                rw [ByteArray.size_extract]; omega
              · rw [hs] at H
                exfalso; have := H; simp only [] at this; rw [if_neg hL0] at this; cases this

    · intro hpass
      go_wp2_with (first | ((with_reducible refine gate_callee (f := 18) rfl ?_); refine goesL_ (some 13) rfl rfl Try.func18 (by kernel_rfl) rfl #[.string a0, .string ⟨#[34]⟩] rfl (by (try simp only [List.map_toArray, List.map_cons, List.map_nil]); first | done | rfl) ?_; (with_reducible refine (cutP a0 _).mono ?_); rintro e w' ⟨rfl, rfl⟩; refine ⟨_, rfl, ?_⟩) | ((with_reducible refine gate_callee (f := 19) rfl ?_); refine goesL_ (some 18) rfl rfl Try.func19 (by kernel_rfl) rfl #[.string ⟨(Lib.trimPrefix a0.data.toList [34]).toArray⟩, .string ⟨#[34]⟩] rfl (by (try simp only [List.map_toArray, List.map_cons, List.map_nil]); first | done | rfl) ?_; (with_reducible refine (cutS _ htl _).mono ?_); rintro e w' ⟨rfl, rfl⟩; refine ⟨_, rfl, ?_⟩))
      go_wp2_with (with_reducible refine (named_any _).mono ?_)
      rintro e wn ⟨rfl, on, bn⟩
      go_wp2_with fail
      go_step3
      show _
      refine (‹∀ (a : Act) (w : World), Code.wp Try.prog _ _ a w → _› _ _ (hpass _ _ ?_))
      exact ⟨rfl, rfl, rfl, rfl, rfl, rfl, rfl, _, [], .slice none 0 0, k, wn, rfl, rfl, on, bn, ⟨HH.out, Kd.R_nil _ _ _ _ _, Below.refl _ _⟩⟩
  · have HH' : some ((⟨#[]⟩ : ByteArray), (4 : Int)) = some (r1, r2) := by have := HH.out; unfold unquote.f at this; rw [if_neg hps] at this; exact this
    clear HH
    obtain ⟨rfl, rfl⟩ := Prod.mk.inj (Option.some.inj HH')
    refine wp_scope_straight ?_
    by_cases hp : Lib.hasPrefix a0.data.toList [34] = true
    · have hs : ¬ Lib.hasSuffix (Lib.trimPrefix a0.data.toList [34]) [34] = true := fun h => hps ⟨hp, h⟩
      clear hps
      go_wp2_with (first | ((with_reducible refine gate_callee (f := 18) rfl ?_); refine goesL_ (some 13) rfl rfl Try.func18 (by kernel_rfl) rfl #[.string a0, .string ⟨#[34]⟩] rfl (by (try simp only [List.map_toArray, List.map_cons, List.map_nil]); first | done | rfl) ?_; (with_reducible refine (cutP a0 _).mono ?_); rintro e w' ⟨rfl, rfl⟩; refine ⟨_, rfl, ?_⟩) | ((with_reducible refine gate_callee (f := 19) rfl ?_); refine goesL_ (some 18) rfl rfl Try.func19 (by kernel_rfl) rfl #[.string ⟨(Lib.trimPrefix a0.data.toList [34]).toArray⟩, .string ⟨#[34]⟩] rfl (by (try simp only [List.map_toArray, List.map_cons, List.map_nil]); first | done | rfl) ?_; (with_reducible refine (cutS _ htl _).mono ?_); rintro e w' ⟨rfl, rfl⟩; refine ⟨_, rfl, ?_⟩))
      go_ret2
      exact ⟨rfl, Below.refl _ _⟩
    · clear hps
      go_wp2_with (first | ((with_reducible refine gate_callee (f := 18) rfl ?_); refine goesL_ (some 13) rfl rfl Try.func18 (by kernel_rfl) rfl #[.string a0, .string ⟨#[34]⟩] rfl (by (try simp only [List.map_toArray, List.map_cons, List.map_nil]); first | done | rfl) ?_; (with_reducible refine (cutP a0 _).mono ?_); rintro e w' ⟨rfl, rfl⟩; refine ⟨_, rfl, ?_⟩) | ((with_reducible refine gate_callee (f := 19) rfl ?_); refine goesL_ (some 18) rfl rfl Try.func19 (by kernel_rfl) rfl #[.string ⟨(Lib.trimPrefix a0.data.toList [34]).toArray⟩, .string ⟨#[34]⟩] rfl (by (try simp only [List.map_toArray, List.map_cons, List.map_nil]); first | done | rfl) ?_; (with_reducible refine (cutS _ htl _).mono ?_); rintro e w' ⟨rfl, rfl⟩; refine ⟨_, rfl, ?_⟩))
      go_ret2
      exact ⟨rfl, Below.refl _ _⟩
end Go.Proofs.Ytnklefbojabblaa.H
