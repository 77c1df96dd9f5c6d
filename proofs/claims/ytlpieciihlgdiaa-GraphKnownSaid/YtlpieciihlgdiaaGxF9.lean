-- written by a program of this session (handprint.sh), over functions proved by hand
import Derived.Test.YtlpieciihlgdiaaGx0
import Derived.Test.YtlpieciihlgdiaaGxF42
import Derived.Test.YtlpieciihlgdiaaGxF30
import Derived.Test.YtlpieciihlgdiaaGxF38
namespace Go.Proofs.Ytlpieciihlgdiaa.G
open Go.RowKit Go.Proofs.YtlpieciihlgdiaaW.PrintWords Go.Proofs.YtlpieciihlgdiaaW.PrintLast Go.Proofs.YtlpieciihlgdiaaW.PrintMore
attribute [local go_sem] max2_int min2_int max_two min_two max_three min_three max_four min_four   -- for this text's walks alone
-- shrunk
set_option linter.unusedVariables false
set_option linter.unusedSimpArgs false
/-! ### graph_Check: function 9 -/
def OneB (r : Bool) (w : World) (e : Ending) (w' : World) : Prop := e = .returned (.bool r) ∧ Below w.heap.size w w'
def OneI (r : Int) (w : World) (e : Ending) (w' : World) : Prop := e = .returned (.int .i64 r) ∧ Below w.heap.size w w'
def refB (a b : Int) : Bool := decide (a ≥ 5) && mayB a b
def slotB (l : List S36) (a b : Int) : Bool := mayB a b && (!(a == 0) && (!decide (a ≥ 5) || (decide (b ≤ (l.length : Int)) && ((rd_T36 l (b - 1)).f0 == a))))
theorem vref (a b : Int) : val_Ref.f a b = some (refB a b) := by
 unfold val_Ref.f val_May.f refB
 by_cases h : a ≥ 5 <;> simp [h]
theorem may_ref {a b : Int} (h : mayB a b = true) (h5 : a ≥ 5) : 1 ≤ b ∧ b ≤ 2147483647 := by
 unfold mayB at h
 rw [if_neg (by omega), if_neg (by omega), if_neg (by omega), if_neg (by omega), if_neg (by omega)] at h
 unfold withinB at h
 simp at h; omega
theorem slot_some (l : List S36) (a b : Int) : graph_slot.f l a b = some (slotB l a b) := by
 unfold graph_slot.f slotB
 rw [val_May.f, Option.bind_some]
 by_cases hm : mayB a b = true
 ·rw [hm, if_pos rfl]
  by_cases h0 : a = 0
  ·rw [if_pos h0]; simp [h0]
  rw [if_neg h0, vref, Option.bind_some]
  unfold refB
  have e0 : (a == 0) = false := by simpa using h0
  rw [hm, e0]
  by_cases h5 : a ≥ 5
  ·have hb := may_ref hm h5
   have d5 : decide (a ≥ 5) = true := by simpa using h5
   rw [d5]
   by_cases hl : b ≤ (l.length : Int)
   ·have dl : decide (b ≤ (l.length : Int)) = true := by simpa using hl
    have hw : wrap64 (b - 1) = b - 1 := by unfold wrap64; omega
    rw [dl, hw, if_pos (by decide), if_pos hl, if_pos (by omega), if_pos (by omega)]
    simp
   ·have dl : decide (b ≤ (l.length : Int)) = false := by simpa using hl
    rw [dl, if_pos (by decide), if_neg hl]
    simp
  ·have d5 : decide (a ≥ 5) = false := by simpa using h5
   rw [d5, if_neg (by decide)]
   simp
 ·rw [Bool.eq_false_iff.2 hm, if_neg (by decide)]
  simp
-- 'func(v Value) bool { return !slot(g, v) }'
set_option maxHeartbeats 400000 in
theorem c37_any (A0 : Option Addr) (c0 : Nat) (l0 : List S36) (a b : Int) (gb : Nat) (w : World) (hr : Kd.C k36 w A0 l0.length l0) (hc : l0.length ≤ c0) (hg : w.cell? ⟨gb, 0, none⟩ = some (.slice A0 l0.length c0)) :
  Calls Try.prog 37 #[.agg #[.int .i64 a, .int .i64 b], .pointer (some ⟨gb, 0, none⟩)] w fun e w' => OneB (!slotB l0 a b) w e w' := by
 have hlt := World.block_lt_of_cell? w _ hg
 have hlt' : gb < w.heap.size := hlt
 have HR := Aside0.mk hr
 have HC := Aside0.mk hc
 have HS := Aside0.mk (slot_some l0 a b)
 clear hr hc
 go_enter Try.func37, Try.ntmps37
 go_wp2_with (go_at_call 38; (with_reducible refine (graph_slot.calls A0 c0 l0 a b _ _ ?h1 HC.out HS.out).mono ?_); (case h1 => exact Kd.C_alloc HR.out _); rintro e w' ⟨rfl, hb⟩)
 go_ret
 exact ⟨rfl, below_step (below_alloc (Below.refl _ _) _) hb⟩
/-- the first place from i on that answers yes; -1: none -/
def firstAt {α : Type} (p : α → Bool) : List α → Int → Int
 | [], _ => -1
 | x :: l, i => if p x = true then i else firstAt p l (i + 1)
theorem firstAt_drop {α : Type} (p : α → Bool) (l : List α) (k : Nat) (h : k < l.length) : firstAt p (l.drop k) k = if p l[k] = true then (k : Int) else firstAt p (l.drop (k + 1)) ((k + 1 : Nat) : Int) := by
 rw [List.drop_eq_getElem_cons h, firstAt]; rfl
theorem firstAt_any {α : Type} (p : α → Bool) : ∀ (l : List α) (i : Int), 0 ≤ i → (decide (firstAt p l i ≥ 0) = l.any p)
 | [], i, h => by simp [firstAt]
 | x :: l, i, h => by
  rw [firstAt, List.any_cons]
  by_cases hp : p x = true
  ·rw [if_pos hp, hp]; simp; exact h
  ·rw [if_neg hp, firstAt_any p l (i + 1) (by omega)]; simp [hp]
theorem w64 {i : Int} (h0 : -9223372036854775808 ≤ i) (h1 : i ≤ 9223372036854775807) : wrap64 i = i := by unfold wrap64; omega
def FirstIs (p : S40 → Bool) (l : List S40) (i : Int) : Prop := firstAt p l 0 = i
def FirstFrom (p : S40 → Bool) (l : List S40) (r : Int) (k : Nat) : Prop := firstAt p (l.drop k) k = r
set_option maxHeartbeats 1000000 in
theorem idx43_any (A0 : Option Addr) (c0 : Nat) (l0 : List S36) (gb : Nat) (A : Option Addr) (c : Nat) (l : List S40) (w : World) (r : Int) (hR : FirstIs (fun x => !slotB l0 x.f0 x.f1) l r)
  (hr : Kd.C k36 w A0 l0.length l0) (hc : l0.length ≤ c0) (hg : w.cell? ⟨gb, 0, none⟩ = some (.slice A0 l0.length c0)) (hs : Kd.C k40 w A l.length l) (hsc : l.length ≤ c) (hl : l.length ≤ 9223372036854775807) :
  Calls Try.prog 43 #[.slice A l.length c, .func (.func 37) #[] #[.pointer (some ⟨gb, 0, none⟩)]] w fun e w' => OneI r w e w' := by
 have HR := Aside0.mk hr
 have HC := Aside0.mk hc
 have HS := Aside0.mk hs
 have HG := Aside0.mk hg
 have HL := Aside0.mk hl
 have HF : Aside0 (FirstFrom (fun x => !slotB l0 x.f0 x.f1) l r 0) := ⟨hR⟩
 have HB := Aside0.mk (Below.refl w.heap.size w)
 clear hr hc hs hg hR hl
 go_enter Try.func43, Try.ntmps43
 go_wp2_with fail
 go_loopw [8] (fun i wr => ∃ k : Nat, k ≤ l.length ∧ i = .int .i64 k ∧ Aside0 (FirstFrom (fun x => !slotB l0 x.f0 x.f1) l r k) ∧ Aside0 (Below w.heap.size w wr)) (fun i _ => l.length - (intOf i).toNat)
 case atStart => exact ⟨0, Nat.zero_le _, rfl, HF, HB⟩
 case round =>
  clear HF HB
  obtain ⟨k, hk, rfl, HF, HB⟩ := hrel
  by_cases hlt : k < l.length
  ·have hl9 := HL.out
   have p1 : (0 : Int) ≤ (k : Int) := by omega
   have q1 : (k : Int) < (l.length : Int) := by omega
   obtain ⟨ad, e, x0, x1⟩ := at_T40 HS.out (k : Int) p1 q1
   rw [Int.toNat_natCast] at x0 x1
   cases e
   replace x0 := (HB.out.cell (World.block_lt_of_cell? w _ x0)).trans x0
   replace x1 := (HB.out.cell (World.block_lt_of_cell? w _ x1)).trans x1
   have hd := firstAt_drop (fun x : S40 => !slotB l0 x.f0 x.f1) l k hlt
   have hrd : rd_T40 l (k : Int) = l[k] := by unfold rd_T40; simp [hlt]
   have HGr : Aside0 (_ = some (Value.slice A0 l0.length c0)) := ⟨(HB.out.cell (World.block_lt_of_cell? w _ HG.out)).trans HG.out⟩
   by_cases hp : slotB l0 (rd_T40 l (k : Int)).f0 (rd_T40 l (k : Int)).f1 = true
   ·have HF2 : Aside0 (FirstFrom (fun x => !slotB l0 x.f0 x.f1) l r (k + 1)) := ⟨by
     have h1 := HF.out
     unfold FirstFrom at h1 ⊢
     rw [hd, ← hrd, hp] at h1
     simpa using h1⟩
    have HP := Aside0.mk hp
    clear hp hd hrd
    go_wp2_with ((with_reducible refine (c37_any A0 c0 l0 _ _ gb _ ?h1 HC.out HGr.out).mono ?_); (case h1 => exact Kd.C_below HR.out HB.out); rintro e w' ⟨rfl, hb⟩; rw [HP.out]; replace HB := Aside0.mk (below_step HB.out hb); clear hb)
    go_roundw
    case rel => exact ⟨k + 1, by omega, by go_num, HF2, HB⟩
    case measure => simp [intOf]; omega
   ·have hp' := Bool.eq_false_iff.2 hp
    have HF2 : Aside0 ((k : Int) = r) := ⟨by
     have h1 := HF.out
     unfold FirstFrom at h1
     rw [hd, ← hrd, hp'] at h1
     simpa using h1⟩
    have HP := Aside0.mk hp'
    clear hp hp' hd hrd
    go_wp2_with ((with_reducible refine (c37_any A0 c0 l0 _ _ gb _ ?h2 HC.out HGr.out).mono ?_); (case h2 => exact Kd.C_below HR.out HB.out); rintro e w' ⟨rfl, hb⟩; rw [HP.out]; replace HB := Aside0.mk (below_step HB.out hb); clear hb)
    go_ret
    have := HF2.out
    subst this
    exact ⟨rfl, HB.out⟩
  ·have hk' : k = l.length := by omega
   have HF2 : Aside0 (-1 = r) := ⟨by
    have h1 := HF.out
    unfold FirstFrom at h1
    rw [hk'] at h1
    simpa [firstAt] using h1⟩
   go_wp2_with fail
   go_ret
   have := HF2.out
   subst this
   exact ⟨rfl, HB.out⟩
set_option maxHeartbeats 400000 in
theorem con36_any (A0 : Option Addr) (c0 : Nat) (l0 : List S36) (gb : Nat) (A : Option Addr) (c : Nat) (l : List S40) (w : World) (r : Bool) (hR : (l.any fun x => !slotB l0 x.f0 x.f1) = r)
  (hr : Kd.C k36 w A0 l0.length l0) (hc : l0.length ≤ c0) (hg : w.cell? ⟨gb, 0, none⟩ = some (.slice A0 l0.length c0)) (hs : Kd.C k40 w A l.length l) (hsc : l.length ≤ c) (hl : l.length ≤ 9223372036854775807) :
  Calls Try.prog 36 #[.slice A l.length c, .func (.func 37) #[] #[.pointer (some ⟨gb, 0, none⟩)]] w fun e w' => OneB r w e w' := by
 have ha := firstAt_any (fun x : S40 => !slotB l0 x.f0 x.f1) l 0 (by omega)
 obtain ⟨i, hi⟩ : ∃ i, firstAt (fun x : S40 => !slotB l0 x.f0 x.f1) l 0 = i := ⟨_, rfl⟩
 have HI : Aside0 (FirstIs (fun x => !slotB l0 x.f0 x.f1) l i) := ⟨hi⟩
 have hi' : decide (i ≥ 0) = r := by rw [← hi, ha, hR]
 clear ha hi hR
 have H1 := Aside0.mk hr
 have H2 := Aside0.mk hc
 have H3 := Aside0.mk hg
 have H4 := Aside0.mk hs
 have H5 := Aside0.mk hsc
 have H6 := Aside0.mk hl
 clear hr hc hg hs hsc hl
 cases r
 ·have hn : i < 0 := by simpa using hi'
  have hd : decide (0 ≤ i) = false := decide_eq_false (by omega)
  clear hi'
  go_enter Try.func36, Try.ntmps36
  go_wp2_with ((with_reducible refine (idx43_any A0 c0 l0 gb A c l _ i HI.out H1.out H2.out H3.out H4.out H5.out H6.out).mono ?_); rintro e w' ⟨rfl, hb⟩)
  go_ret
  exact ⟨rfl, hb⟩
 ·have hn : 0 ≤ i := by simpa using hi'
  clear hi'
  go_enter Try.func36, Try.ntmps36
  go_wp2_with ((with_reducible refine (idx43_any A0 c0 l0 gb A c l _ i HI.out H1.out H2.out H3.out H4.out H5.out H6.out).mono ?_); rintro e w' ⟨rfl, hb⟩)
  go_ret
  exact ⟨rfl, hb⟩
/-- an object that lies in memory -/
def ObjAt (w : World) (ob : Nat) (x : S36) (A : Option Addr) (c : Nat) : Prop :=
 w.cell? ⟨ob, 0, none⟩ = some (.int .i64 x.f0) ∧ w.cell? ⟨ob, 1, none⟩ = some (.int .i64 x.f1) ∧ w.cell? ⟨ob, 2, none⟩ = some (.slice A x.f2.length c) ∧ w.cell? ⟨ob, 3, none⟩ = some (.string x.f3) ∧ w.cell? ⟨ob, 4, none⟩ = some (.int .i64 x.f4) ∧ Kd.C k40 w A x.f2.length x.f2 ∧ x.f2.length ≤ c
theorem cell_below {w w' : World} (hb : Below w.heap.size w w') {b o : Nat} {v : Value} (h : w.cell? ⟨b, o, none⟩ = some v) : w'.cell? ⟨b, o, none⟩ = some v := (hb.cell (World.block_lt_of_cell? w _ h)).trans h
theorem ObjAt.below {w w' : World} {ob : Nat} {x : S36} {A : Option Addr} {c : Nat} (h : ObjAt w ob x A c) (hb : Below w.heap.size w w') : ObjAt w' ob x A c :=
 ⟨cell_below hb h.1, cell_below hb h.2.1, cell_below hb h.2.2.1, cell_below hb h.2.2.2.1, cell_below hb h.2.2.2.2.1, Kd.C_below h.2.2.2.2.2.1 hb, h.2.2.2.2.2.2⟩
def GraphAt (w : World) (gb : Nat) (l0 : List S36) (A0 : Option Addr) (c0 : Nat) : Prop := w.cell? ⟨gb, 0, none⟩ = some (.slice A0 l0.length c0) ∧ Kd.C k36 w A0 l0.length l0 ∧ l0.length ≤ c0
theorem GraphAt.below {w w' : World} {gb : Nat} {l0 : List S36} {A0 : Option Addr} {c0 : Nat} (h : GraphAt w gb l0 A0 c0) (hb : Below w.heap.size w w') : GraphAt w' gb l0 A0 c0 :=
 ⟨cell_below hb h.1, Kd.C_below h.2.1 hb, h.2.2⟩
theorem C_maxLen {α : Type} {d : Kd α} {w : World} {A : Option Addr} {n : Nat} {xs : List α} (h : Kd.C d w A n xs) : n ≤ 9223372036854775807 := h.2.1
def slotsB (l0 : List S36) (l : List S40) : Bool := !(l.any fun x => !slotB l0 x.f0 x.f1)
set_option maxHeartbeats 400000 in
theorem c35_any (l0 : List S36) (A0 : Option Addr) (c0 : Nat) (gb ob : Nat) (x : S36) (A : Option Addr) (c : Nat) (w : World) (hg : GraphAt w gb l0 A0 c0) (ho : ObjAt w ob x A c) (hl : x.f2.length ≤ 9223372036854775807) :
  Calls Try.prog 35 #[.pointer (some ⟨ob, 0, none⟩), .pointer (some ⟨gb, 0, none⟩)] w fun e w' => OneB (slotsB l0 x.f2) w e w' := by
 have hcell := ho.2.2.1
 obtain ⟨r, hr⟩ : ∃ r, (x.f2.any fun x => !slotB l0 x.f0 x.f1) = r := ⟨_, rfl⟩
 have hs : slotsB l0 x.f2 = !r := by unfold slotsB; rw [hr]
 rw [hs]
 clear hs
 have H1 := Aside0.mk hg.1
 have H2 := Aside0.mk hg.2.1
 have H3 := Aside0.mk hg.2.2
 have H4 := Aside0.mk hr
 have H5 := Aside0.mk ho.2.2.2.2.2.1
 have H6 := Aside0.mk ho.2.2.2.2.2.2
 have H7 := Aside0.mk hl
 clear hg ho hl hr
 go_enter Try.func35, Try.ntmps35
 go_wp2_with ((with_reducible refine (con36_any A0 c0 l0 gb A c x.f2 _ r H4.out H2.out H3.out H1.out H5.out H6.out H7.out).mono ?_); rintro e w' ⟨rfl, hb⟩)
 go_ret
 exact ⟨rfl, hb⟩
def headB (k c m : Int) : Bool := decide (k ≥ 5) && (decide (k ≤ 9) && (decide (c ≥ 0) && decide (m ≥ -1)))
set_option maxHeartbeats 400000 in
theorem c33_any (ob : Nat) (x : S36) (A : Option Addr) (c : Nat) (w : World) (ho : ObjAt w ob x A c) :
  Calls Try.prog 33 #[.pointer (some ⟨ob, 0, none⟩)] w fun e w' => OneB (headB x.f0 x.f1 x.f4) w e w' := by
 obtain ⟨h0, h1, _, _, h4, _⟩ := ho
 by_cases g1 : x.f0 ≥ 5
 ·by_cases g2 : x.f0 ≤ 9
  ·by_cases g3 : x.f1 ≥ 0
   ·by_cases g4 : x.f4 ≥ -1
    ·have e : headB x.f0 x.f1 x.f4 = true := by unfold headB; rw [decide_eq_true g1, decide_eq_true g2, decide_eq_true g3, decide_eq_true g4]; rfl
     rw [e]; clear e
     go_enter Try.func33, Try.ntmps33
     go_wp2_with fail
     go_ret
     exact ⟨rfl, Below.refl _ _⟩
    ·have e : headB x.f0 x.f1 x.f4 = false := by unfold headB; rw [decide_eq_false g4]; simp
     rw [e]; clear e
     have g4' : x.f4 < -1 := by omega
     go_enter Try.func33, Try.ntmps33
     go_wp2_with fail
     go_ret
     exact ⟨rfl, Below.refl _ _⟩
   ·have e : headB x.f0 x.f1 x.f4 = false := by unfold headB; rw [decide_eq_false g3]; simp
    rw [e]; clear e
    have g4' : x.f1 < 0 := by omega
    go_enter Try.func33, Try.ntmps33
    go_wp2_with fail
    go_ret
    exact ⟨rfl, Below.refl _ _⟩
  ·have e : headB x.f0 x.f1 x.f4 = false := by unfold headB; rw [decide_eq_false g2]; simp
   rw [e]; clear e
   have g4' : 9 < x.f0 := by omega
   go_enter Try.func33, Try.ntmps33
   go_wp2_with fail
   go_ret
   exact ⟨rfl, Below.refl _ _⟩
 ·have e : headB x.f0 x.f1 x.f4 = false := by unfold headB; rw [decide_eq_false g1]; simp
  rw [e]; clear e
  have g4' : x.f0 < 5 := by omega
  go_enter Try.func33, Try.ntmps33
  go_wp2_with fail
  go_ret
  exact ⟨rfl, Below.refl _ _⟩
def bodyB (k : Int) (n : Nat) (t : ByteArray) : Bool := if k = 5 then n == 0 else t.toList == []
set_option maxHeartbeats 400000 in
theorem c34_any (sb ob : Nat) (x : S36) (A : Option Addr) (c : Nat) (w : World) (ho : ObjAt w ob x A c) (hb : w.cell? ⟨sb, 0, none⟩ = some (.bool (x.f0 == 5))) :
  Calls Try.prog 34 #[.pointer (some ⟨sb, 0, none⟩), .pointer (some ⟨ob, 0, none⟩)] w fun e w' => OneB (bodyB x.f0 x.f2.length x.f3) w e w' := by
 obtain ⟨_, _, h2, h3, _⟩ := ho
 by_cases g1 : x.f0 = 5
 ·have e : bodyB x.f0 x.f2.length x.f3 = (x.f2.length == 0) := by unfold bodyB; rw [if_pos g1]
  rw [e]; clear e
  rw [g1] at hb
  clear g1
  by_cases g2 : x.f2.length = 0
  ·rw [g2] at h2 ⊢
   clear g2
   go_enter Try.func34, Try.ntmps34
   go_wp2_with fail
   go_ret
   exact ⟨rfl, Below.refl _ _⟩
  ·have e : (x.f2.length == 0) = false := by simpa using g2
   rw [e]; clear e
   have g3 : 0 < x.f2.length := by omega
   have g4 : ((x.f2.length : Int) == 0) = false := beq_eq_false_iff_ne.2 (by omega)
   clear g2
   go_enter Try.func34, Try.ntmps34
   go_wp2_with fail
   all_goals go_ret
   all_goals exact ⟨rfl, Below.refl _ _⟩
 ·have e : bodyB x.f0 x.f2.length x.f3 = (x.f3.toList == []) := by unfold bodyB; rw [if_neg g1]
  rw [e]; clear e
  have e : (x.f0 == 5) = false := by simpa using g1
  rw [e] at hb; clear e g1
  go_enter Try.func34, Try.ntmps34
  go_wp2_with fail
  go_ret
  exact ⟨by first | rfl | simp, Below.refl _ _⟩
/-- the three questions, one behind the other, where they lie -/
def QsAt (w : World) (fb ob sb gb : Nat) : Prop :=
 w.cell? ⟨fb, 0, none⟩ = some (.func (.func 33) #[] #[.pointer (some ⟨ob, 0, none⟩)]) ∧ w.cell? ⟨fb, 1, none⟩ = some (.func (.func 34) #[] #[.pointer (some ⟨sb, 0, none⟩), .pointer (some ⟨ob, 0, none⟩)]) ∧
  w.cell? ⟨fb, 2, none⟩ = some (.func (.func 35) #[] #[.pointer (some ⟨ob, 0, none⟩), .pointer (some ⟨gb, 0, none⟩)])
def Yes (b1 b2 b3 : Bool) (k : Nat) : Prop := (0 < k → b1 = true) ∧ (1 < k → b2 = true) ∧ (2 < k → b3 = true)
def restB (l0 : List S36) (x : S36) : Bool := headB x.f0 x.f1 x.f4 && (bodyB x.f0 x.f2.length x.f3 && slotsB l0 x.f2)
set_option maxHeartbeats 2000000 in
theorem all_any (l0 : List S36) (A0 : Option Addr) (c0 : Nat) (gb ob sb fb : Nat) (x : S36) (A : Option Addr) (c : Nat) (w : World) (hg : GraphAt w gb l0 A0 c0) (ho : ObjAt w ob x A c) (hs : w.cell? ⟨sb, 0, none⟩ = some (.bool (x.f0 == 5))) (hq : QsAt w fb ob sb gb)
  (hl : x.f2.length ≤ 9223372036854775807) :
  Calls Try.prog 32 #[.slice (some ⟨fb, 0, none⟩) 3 3] w fun e w' => OneB (restB l0 x) w e w' := by
 have G := Aside0.mk hg
 have O := Aside0.mk ho
 have S := Aside0.mk hs
 have Q := Aside0.mk hq
 have HL := Aside0.mk hl
 obtain ⟨b1, e1⟩ : ∃ b, headB x.f0 x.f1 x.f4 = b := ⟨_, rfl⟩
 obtain ⟨b2, e2⟩ : ∃ b, bodyB x.f0 x.f2.length x.f3 = b := ⟨_, rfl⟩
 obtain ⟨b3, e3⟩ : ∃ b, slotsB l0 x.f2 = b := ⟨_, rfl⟩
 have hr : restB l0 x = (b1 && (b2 && b3)) := by unfold restB; rw [e1, e2, e3]
 rw [hr]
 have E1 := Aside0.mk e1
 have E2 := Aside0.mk e2
 have E3 := Aside0.mk e3
 have HB := Aside0.mk (Below.refl w.heap.size w)
 clear hg ho hs hq hl e1 e2 e3 hr
 go_enter Try.func32, Try.ntmps32
 go_wp2_with fail
 go_loopw [7] (fun i wr => ∃ k : Nat, k ≤ 3 ∧ i = .int .i64 k ∧ Aside0 (Yes b1 b2 b3 k) ∧ Aside0 (Below w.heap.size w wr)) (fun i _ => 3 - (intOf i).toNat)
 case atStart => exact ⟨0, Nat.zero_le _, rfl, ⟨⟨by omega, by omega, by omega⟩⟩, HB⟩
 case round =>
  clear HB
  obtain ⟨k, hk, rfl, HF, HB⟩ := hrel
  have q0 := cell_below HB.out Q.out.1
  have q1 := cell_below HB.out Q.out.2.1
  have q2 := cell_below HB.out Q.out.2.2
  rcases (by omega : k = 0 ∨ k = 1 ∨ k = 2 ∨ k = 3) with rfl | rfl | rfl | rfl
  ·cases b1
   ·go_wp2_with ((with_reducible refine (c33_any ob x A c _ (ObjAt.below O.out HB.out)).mono ?_); rintro e w' ⟨rfl, hb⟩; rw [E1.out]; replace HB := Aside0.mk (below_step HB.out hb); clear hb)
    go_ret
    exact ⟨rfl, HB.out⟩
   ·go_wp2_with ((with_reducible refine (c33_any ob x A c _ (ObjAt.below O.out HB.out)).mono ?_); rintro e w' ⟨rfl, hb⟩; rw [E1.out]; replace HB := Aside0.mk (below_step HB.out hb); clear hb)
    go_roundw
    case rel => exact ⟨1, by omega, by go_num, ⟨⟨fun _ => rfl, by omega, by omega⟩⟩, HB⟩
    case measure => simp [intOf]
  ·obtain rfl := HF.out.1 (by omega)
   cases b2
   ·go_wp2_with ((with_reducible refine (c34_any sb ob x A c _ (ObjAt.below O.out HB.out) (cell_below HB.out S.out)).mono ?_); rintro e w' ⟨rfl, hb⟩; rw [E2.out]; replace HB := Aside0.mk (below_step HB.out hb); clear hb)
    go_ret
    exact ⟨rfl, HB.out⟩
   ·go_wp2_with ((with_reducible refine (c34_any sb ob x A c _ (ObjAt.below O.out HB.out) (cell_below HB.out S.out)).mono ?_); rintro e w' ⟨rfl, hb⟩; rw [E2.out]; replace HB := Aside0.mk (below_step HB.out hb); clear hb)
    go_roundw
    case rel => exact ⟨2, by omega, by go_num, ⟨⟨fun _ => rfl, fun _ => rfl, by omega⟩⟩, HB⟩
    case measure => simp [intOf]
  ·obtain rfl := HF.out.1 (by omega)
   obtain rfl := HF.out.2.1 (by omega)
   cases b3
   ·go_wp2_with ((with_reducible refine (c35_any l0 A0 c0 gb ob x A c _ (GraphAt.below G.out HB.out) (ObjAt.below O.out HB.out) HL.out).mono ?_); rintro e w' ⟨rfl, hb⟩; rw [E3.out]; replace HB := Aside0.mk (below_step HB.out hb); clear hb)
    go_ret
    exact ⟨rfl, HB.out⟩
   ·go_wp2_with ((with_reducible refine (c35_any l0 A0 c0 gb ob x A c _ (GraphAt.below G.out HB.out) (ObjAt.below O.out HB.out) HL.out).mono ?_); rintro e w' ⟨rfl, hb⟩; rw [E3.out]; replace HB := Aside0.mk (below_step HB.out hb); clear hb)
    go_roundw
    case rel => exact ⟨3, by omega, by go_num, ⟨⟨fun _ => rfl, fun _ => rfl, fun _ => rfl⟩⟩, HB⟩
    case measure => simp [intOf]
  ·obtain rfl := HF.out.1 (by omega)
   obtain rfl := HF.out.2.1 (by omega)
   obtain rfl := HF.out.2.2 (by omega)
   go_wp2_with fail
   go_ret
   exact ⟨rfl, HB.out⟩
def freeB (x : S36) : Bool := (x.f1 == 0) && ((x.f2.length == 0) && ((x.f3.toList == []) && (x.f4 == 0)))
def objB (l0 : List S36) (x : S36) : Bool := if x.f0 = 0 then freeB x else restB l0 x
theorem free_no {x : S36} (h : ¬ (x.f1 = 0 ∧ x.f2.length = 0 ∧ x.f3.toList = [] ∧ x.f4 = 0)) : freeB x = false := by
 unfold freeB
 rw [Bool.eq_false_iff]
 intro h'
 simp only [Bool.and_eq_true, beq_iff_eq] at h'
 exact h ⟨h'.1, h'.2.1, h'.2.2.1, h'.2.2.2⟩
set_option maxHeartbeats 2000000 in
theorem obj_any (l0 : List S36) (A0 : Option Addr) (c0 : Nat) (x : S36) (A : Option Addr) (c : Nat) (w : World) (r : Bool) (hR : objB l0 x = r) (hr : Kd.C k36 w A0 l0.length l0) (hc : l0.length ≤ c0) (hs : Kd.C k40 w A x.f2.length x.f2) (hsc : x.f2.length ≤ c) (hl : x.f2.length ≤ 9223372036854775807) :
  Calls Try.prog 26 #[.agg #[.slice A0 l0.length c0], .agg #[.int .i64 x.f0, .int .i64 x.f1, .slice A x.f2.length c, .string x.f3, .int .i64 x.f4]] w fun e w' => OneB r w e w' := by
 subst hR
 have H1 := Aside0.mk hr
 have H2 := Aside0.mk hc
 have H3 := Aside0.mk hs
 have H4 := Aside0.mk hsc
 have H5 := Aside0.mk hl
 clear hr hc hs hsc
 by_cases h0 : x.f0 = 0
 ·have hob : objB l0 x = freeB x := by unfold objB; rw [if_pos h0]
  rw [hob]
  clear hob
  have t0 : (x.f0 == 0) = true := by simpa using h0
  clear h0
  by_cases g1 : x.f1 = 0
  ·have t1 : (x.f1 == 0) = true := by simpa using g1
   by_cases g2 : x.f2.length = 0
   ·have t2 : ((x.f2.length : Int) == 0) = true := by rw [g2]; rfl
    by_cases g3 : x.f3.toList = []
    ·have t3 : x.f3.toList.isEmpty = true := by rw [g3]; rfl
     have hf : freeB x = (x.f4 == 0) := by unfold freeB; rw [g1, g2, g3]; simp
     rw [hf]
     clear hf g1 g2 g3 hl
     go_enter Try.func26, Try.ntmps26
     go_wp2_with fail
     go_ret
     exact ⟨rfl, below_alloc (below_alloc (Below.refl _ _) _) _⟩
    ·have t3 : x.f3.toList.isEmpty = false := by simpa using g3
     have hf := free_no (x := x) (fun h => g3 h.2.2.1)
     rw [hf]
     clear hf g1 g2 g3 hl
     go_enter Try.func26, Try.ntmps26
     go_wp2_with fail
     go_ret
     exact ⟨rfl, below_alloc (below_alloc (Below.refl _ _) _) _⟩
   ·have t2 : ((x.f2.length : Int) == 0) = false := beq_eq_false_iff_ne.2 (by omega)
    have hf := free_no (x := x) (fun h => g2 h.2.1)
    rw [hf]
    clear hf g1 g2 hl
    go_enter Try.func26, Try.ntmps26
    go_wp2_with fail
    go_ret
    exact ⟨rfl, below_alloc (below_alloc (Below.refl _ _) _) _⟩
  ·have t1 : (x.f1 == 0) = false := by simpa using g1
   have hf := free_no (x := x) (fun h => g1 h.1)
   rw [hf]
   clear hf g1 hl
   go_enter Try.func26, Try.ntmps26
   go_wp2_with fail
   go_ret
   exact ⟨rfl, below_alloc (below_alloc (Below.refl _ _) _) _⟩
 ·have hob : objB l0 x = restB l0 x := by unfold objB; rw [if_neg h0]
  rw [hob]
  clear hob
  have t0 : (x.f0 == 0) = false := by simpa using h0
  clear h0 hl
  go_enter Try.func26, Try.ntmps26
  go_wp2_with fail
  (with_reducible refine (all_any l0 A0 c0 w.heap.size (w.heap.size + 1) (w.heap.size + 1 + 1) (w.heap.size + 1 + 1 + 1) x A c _ ?hg ?ho ?hs ?hq H5.out).mono ?_)
  case hg => exact ⟨by go_simp, by repeat (first | exact H1.out | apply Kd.C_alloc), H2.out⟩
  case ho => exact ⟨by go_simp, by go_simp, by go_simp, by go_simp, by go_simp, by repeat (first | exact H3.out | apply Kd.C_alloc), H4.out⟩
  case hs => go_simp
  case hq => exact ⟨by go_simp, by go_simp, by go_simp⟩
  rintro e w' ⟨rfl, hb⟩
  go_wp2_with fail
  go_ret
  exact ⟨rfl, below_step (by repeat (first | exact Below.refl _ _ | apply below_alloc)) hb⟩
set_option maxHeartbeats 1000000 in
theorem c25_any (l0 : List S36) (A0 : Option Addr) (c0 : Nat) (gb : Nat) (x : S36) (A : Option Addr) (c : Nat) (w : World) (hg : GraphAt w gb l0 A0 c0) (hs : Kd.C k40 w A x.f2.length x.f2) (hsc : x.f2.length ≤ c) :
  Calls Try.prog 25 #[.agg #[.int .i64 x.f0, .int .i64 x.f1, .slice A x.f2.length c, .string x.f3, .int .i64 x.f4], .pointer (some ⟨gb, 0, none⟩)] w fun e w' => OneB (!objB l0 x) w e w' := by
 have hlt : gb < w.heap.size := World.block_lt_of_cell? w _ hg.1
 have hcell := hg.1
 have H1 := Aside0.mk hg.2.1
 have H2 := Aside0.mk hg.2.2
 have H3 := Aside0.mk hs
 have H4 := Aside0.mk hsc
 have H5 := Aside0.mk (C_maxLen hs)
 obtain ⟨r, hr⟩ : ∃ r, objB l0 x = r := ⟨_, rfl⟩
 rw [hr]
 have HR := Aside0.mk hr
 clear hg hs hsc hr
 go_enter Try.func25, Try.ntmps25
 go_wp2_with fail
 refine (obj_any l0 A0 c0 x A c _ r HR.out (Kd.C_alloc H1.out _) H2.out (Kd.C_alloc H3.out _) H4.out H5.out).mono ?_
 rintro e w' ⟨rfl, hb⟩
 go_wp2_with fail
 go_ret
 exact ⟨rfl, below_step (below_alloc (Below.refl _ _) _) hb⟩
def ObjsFirst (l0 l : List S36) (r : Int) (k : Nat) : Prop := firstAt (fun x => !objB l0 x) (l.drop k) k = r
set_option maxHeartbeats 1000000 in
theorem idx31_any (A0 : Option Addr) (c0 : Nat) (l0 : List S36) (gb : Nat) (w : World) (r : Int) (hR : ObjsFirst l0 l0 r 0) (hg : GraphAt w gb l0 A0 c0) :
  Calls Try.prog 31 #[.slice A0 l0.length c0, .func (.func 25) #[] #[.pointer (some ⟨gb, 0, none⟩)]] w fun e w' => OneI r w e w' := by
 have G := Aside0.mk hg
 have HS := Aside0.mk hg.2.1
 have HL := Aside0.mk (C_maxLen hg.2.1)
 have HF := Aside0.mk hR
 have HB := Aside0.mk (Below.refl w.heap.size w)
 clear hR hg
 go_enter Try.func31, Try.ntmps31
 go_wp2_with fail
 go_loopw [8] (fun i wr => ∃ k : Nat, k ≤ l0.length ∧ i = .int .i64 k ∧ Aside0 (ObjsFirst l0 l0 r k) ∧ Aside0 (Below w.heap.size w wr)) (fun i _ => l0.length - (intOf i).toNat)
 case atStart => exact ⟨0, Nat.zero_le _, rfl, HF, HB⟩
 case round =>
  clear HF HB
  obtain ⟨k, hk, rfl, HF, HB⟩ := hrel
  by_cases hlt : k < l0.length
  ·have hl9 := HL.out
   have p1 : (0 : Int) ≤ (k : Int) := by omega
   have q1 : (k : Int) < (l0.length : Int) := by omega
   obtain ⟨ad, A2, c2, e, x0, x1, x2, x3, x4, hl2, hi2⟩ := at_T36 HS.out (k : Int) p1 q1
   rw [Int.toNat_natCast] at x0 x1 x2 x3 x4
   replace x0 := (HB.out.cell (World.block_lt_of_cell? w _ x0)).trans x0
   replace x1 := (HB.out.cell (World.block_lt_of_cell? w _ x1)).trans x1
   replace x2 := (HB.out.cell (World.block_lt_of_cell? w _ x2)).trans x2
   replace x3 := (HB.out.cell (World.block_lt_of_cell? w _ x3)).trans x3
   replace x4 := (HB.out.cell (World.block_lt_of_cell? w _ x4)).trans x4
   have hd := firstAt_drop (fun x : S36 => !objB l0 x) l0 k hlt
   have hrd : rd_T36 l0 (k : Int) = l0[k] := by unfold rd_T36; simp [hlt]
   have GB := Aside0.mk (GraphAt.below G.out HB.out)
   have HI := Aside0.mk (Kd.C_below hi2 HB.out)
   have HI2 := Aside0.mk hl2
   clear hl2 hi2
   generalize rd_T36 l0 (k : Int) = x at *
   cases e
   by_cases hp : objB l0 x = true
   ·have HF2 : Aside0 (ObjsFirst l0 l0 r (k + 1)) := ⟨by
     have h1 := HF.out
     unfold ObjsFirst at h1 ⊢
     rw [hd, ← hrd, hp] at h1
     simpa using h1⟩
    have HP := Aside0.mk hp
    clear hp hd hrd
    go_wp2_with ((with_reducible refine (c25_any l0 _ c0 gb x _ _ _ GB.out HI.out HI2.out).mono ?_); rintro e w' ⟨rfl, hb⟩; rw [HP.out]; replace HB := Aside0.mk (below_step HB.out hb); clear hb)
    go_roundw
    case rel => exact ⟨k + 1, by omega, by go_num, HF2, HB⟩
    case measure => simp [intOf]; omega
   ·have hp' := Bool.eq_false_iff.2 hp
    have HF2 : Aside0 ((k : Int) = r) := ⟨by
     have h1 := HF.out
     unfold ObjsFirst at h1
     rw [hd, ← hrd, hp'] at h1
     simpa using h1⟩
    have HP := Aside0.mk hp'
    clear hp hp' hd hrd
    go_wp2_with ((with_reducible refine (c25_any l0 _ c0 gb x _ _ _ GB.out HI.out HI2.out).mono ?_); rintro e w' ⟨rfl, hb⟩; rw [HP.out]; replace HB := Aside0.mk (below_step HB.out hb); clear hb)
    go_ret
    have := HF2.out
    subst this
    exact ⟨rfl, HB.out⟩
  ·have hk' : k = l0.length := by omega
   have HF2 : Aside0 (-1 = r) := ⟨by
    have h1 := HF.out
    unfold ObjsFirst at h1
    rw [hk'] at h1
    simpa [firstAt] using h1⟩
   go_wp2_with fail
   go_ret
   have := HF2.out
   subst this
   exact ⟨rfl, HB.out⟩
set_option maxHeartbeats 400000 in
theorem con24_any (A0 : Option Addr) (c0 : Nat) (l0 : List S36) (gb : Nat) (w : World) (r : Bool) (hR : (l0.any fun x => !objB l0 x) = r) (hg : GraphAt w gb l0 A0 c0) :
  Calls Try.prog 24 #[.slice A0 l0.length c0, .func (.func 25) #[] #[.pointer (some ⟨gb, 0, none⟩)]] w fun e w' => OneB r w e w' := by
 have ha := firstAt_any (fun x : S36 => !objB l0 x) l0 0 (by omega)
 obtain ⟨i, hi⟩ : ∃ i, firstAt (fun x : S36 => !objB l0 x) l0 0 = i := ⟨_, rfl⟩
 have HI : Aside0 (ObjsFirst l0 l0 i 0) := ⟨hi⟩
 have hi' : decide (i ≥ 0) = r := by rw [← hi, ha, hR]
 clear ha hi hR
 have G := Aside0.mk hg
 clear hg
 cases r
 ·have hn : i < 0 := by simpa using hi'
  have hd : decide (0 ≤ i) = false := decide_eq_false (by omega)
  clear hi'
  go_enter Try.func24, Try.ntmps24
  go_wp2_with ((with_reducible refine (idx31_any A0 c0 l0 gb _ i HI.out G.out).mono ?_); rintro e w' ⟨rfl, hb⟩)
  go_ret
  exact ⟨rfl, hb⟩
 ·have hn : 0 ≤ i := by simpa using hi'
  clear hi'
  go_enter Try.func24, Try.ntmps24
  go_wp2_with ((with_reducible refine (idx31_any A0 c0 l0 gb _ i HI.out G.out).mono ?_); rintro e w' ⟨rfl, hb⟩)
  go_ret
  exact ⟨rfl, hb⟩
def checkB (l0 : List S36) : Bool := !(l0.any fun x => !objB l0 x)
set_option maxHeartbeats 400000 in
theorem check_any (A0 : Option Addr) (c0 : Nat) (l0 : List S36) (w : World) (r : Bool) (hR : checkB l0 = r) (hr : Kd.C k36 w A0 l0.length l0) (hc : l0.length ≤ c0) :
  Calls Try.prog 9 #[.agg #[.slice A0 l0.length c0]] w fun e w' => OneB r w e w' := by
 obtain ⟨q, hq⟩ : ∃ q, (l0.any fun x => !objB l0 x) = q := ⟨_, rfl⟩
 unfold checkB at hR
 rw [hq] at hR
 subst hR
 have Q := Aside0.mk hq
 have H1 := Aside0.mk hr
 have H2 := Aside0.mk hc
 clear hq hr hc
 go_enter Try.func9, Try.ntmps9
 go_wp2_with fail
 (with_reducible refine (con24_any A0 c0 l0 w.heap.size _ q Q.out ?hg).mono ?_)
 case hg => exact ⟨by go_simp, Kd.C_alloc H1.out _, H2.out⟩
 rintro e w' ⟨rfl, hb⟩
 go_wp2_with fail
 go_ret
 exact ⟨rfl, below_step (below_alloc (Below.refl _ _) _) hb⟩
def graph_Check.f (l0_0 : List S36) : Option Bool := some (checkB l0_0)
theorem graph_Check.calls (A0_0 : Option Addr) (c0_0 : Nat) (l0_0 : List (S36)) (r : Bool) (w : World) (hr0_0 : Kd.C k36 w A0_0 l0_0.length l0_0) (hc0_0 : l0_0.length ≤ c0_0) (h : graph_Check.f l0_0 = some r) :
  Calls Try.prog 9 #[.agg #[.slice A0_0 l0_0.length c0_0]] w fun e w' => e = .returned (.bool r) ∧ Below w.heap.size w w' :=
 check_any A0_0 c0_0 l0_0 w r (Option.some.inj h) hr0_0 hc0_0
end Go.Proofs.Ytlpieciihlgdiaa.G
