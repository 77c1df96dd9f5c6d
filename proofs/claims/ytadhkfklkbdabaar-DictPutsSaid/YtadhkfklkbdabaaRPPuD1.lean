import Derived.Deep.RegionLaw
import Derived.Deep.Cut
import Derived.WalkSpells
import Derived.Maps.OwnOps
import Derived.Maps.OwnSet
import Derived.Maps.Views
import Derived.Maps.Own
import Derived.DeepKeys5
import Derived.Outline
import Derived.Deep.AppendLies
import Derived.Laws.CopyRow
import Derived.Laws.CopyOwn
import Derived.StillTailTactics
import Derived.Test.YtadhkfklkbdabaaRPPuGxF47
import Derived.Test.YtadhkfklkbdabaaRPPuGxF42
import Derived.Test.YtadhkfklkbdabaaRPPuGxF32
set_option linter.unusedVariables false
set_option linter.unusedSimpArgs false
section
namespace Go.Proofs.YtadhkfklkbdabaaR.G
open Go.RowKit Go.Proofs.YtadhkfklkbdabaaRW.PrintWords Go.Proofs.YtadhkfklkbdabaaRW.PrintLast Go.Proofs.YtadhkfklkbdabaaRW.PrintMore
set_option linter.unusedVariables false
set_option linter.unusedSimpArgs false
def nullB (v : S24) : Bool := v.f0 == 1 && v.f1 == 0
def sameV (a b : S24) : Bool := a.f0 == b.f0 && a.f1 == b.f1
def keyB (v : S24) : Bool := decide (1 < v.f0) && H.mayB v.f0 v.f1
def refB (v : S24) : Bool := decide (5 ≤ v.f0) && H.mayB v.f0 v.f1
def placedB (k : S24) (n : Int) : Bool := (k.f0 == 3) && (decide (1 ≤ k.f1) && decide (k.f1 ≤ n))
def idxP (k : S24) : List S24 → Nat → Option Nat
 | a :: _ :: r, i => if sameV a k = true then some i else idxP k r (i + 2)
 | _, _ => none
def keysOk (n : Int) : List S24 → List S24 → Bool
 | k :: v :: r, seen => !(seen.any (fun a => sameV a k)) && (keyB k && (!nullB v && (!placedB k (n + 1) && keysOk n r (seen ++ [k]))))
 | _, _ => true
def arrN (s : List S24) : Nat := (rd_T24 s 1).f1.toNat
def arrS (s : List S24) : List S24 := (s.drop 2).take (arrN s)
def prsS (s : List S24) : List S24 := s.drop (2 + arrN s)
def headB (s : List S24) : Bool := decide (2 ≤ s.length) && (((rd_T24 s 1).f0 == 3) && (decide (0 ≤ (rd_T24 s 1).f1) && decide ((rd_T24 s 1).f1 ≤ (s.length : Int) - 2)))
def allB (s : List S24) : Bool := s.all (fun v => H.mayB v.f0 v.f1 && !(v.f0 == 0))
def okS (s : List S24) : Bool := headB s && (allB s && ((nullB (rd_T24 s 0) || (rd_T24 s 0).f0 == 6) && (((prsS s).length % 2 == 0) && (!(decide (0 < arrN s) && nullB (rd_T24 s (1 + arrN s))) && keysOk (arrN s) (prsS s) []))))
def getS (s : List S24) (k : S24) : S24 :=
 if okS s = true then (if placedB k (arrN s) = true then rd_T24 s (1 + k.f1) else match idxP k (prsS s) 0 with | some i => rd_T24 (prsS s) (i + 1) | none => ⟨1, 0⟩) else ⟨1, 0⟩
def trimN (l : List S24) : List S24 := (l.reverse.dropWhile nullB).reverse
def layS (l : List S24) (i : Nat) (v : S24) : List S24 := if i + 1 < l.length then l.set i v else trimN (l.set i v)
def takeP (p : List S24) (i : Nat) : List S24 := (((p.set i (rd_T24 p ((p.length : Int) - 2))).set (i + 1) (rd_T24 p ((p.length : Int) - 1))).take (p.length - 2))
def growS : Nat → List S24 → List S24 → List S24 × List S24
 | 0, a, p => (a, p)
 | n + 1, a, p => match idxP ⟨3, (a.length : Int) + 1⟩ p 0 with
  | some i => growS n (a ++ [rd_T24 p (i + 1)]) (takeP p i)
  | none => (a, p)
def refsL (l : List S24) : List S24 := l.filter refB
def changeS (a p : List S24) (k v : S24) : List S24 × List S24 × List S24 :=
 if placedB k a.length = true then (layS a (k.f1 - 1).toNat v, p, refsL [rd_T24 a (k.f1 - 1)])
 else match idxP k p 0 with
  | some i => if nullB v = true then (a, takeP p i, refsL [rd_T24 p (i + 1), rd_T24 p i, k]) else (a, p.set (i + 1) v, refsL [rd_T24 p (i + 1), k])
  | none => if nullB v = true then (a, p, refsL [k])
   else if placedB k (a.length + 1) = true then (let x := growS (p.length + 1) (a ++ [v]) p; (x.1, x.2, []))
   else (a, p ++ [k, v], [])
def putS (s : List S24) (k v : S24) : List S24 × List S24 × Int :=
 if (okS s && (H.mayB k.f0 k.f1 && (H.mayB v.f0 v.f1 && !(v.f0 == 0)))) = true then
  (if keyB k = true then (let x := changeS (arrS s) (prsS s) k v; ([rd_T24 s 0, ⟨3, (x.1.length : Int)⟩] ++ (x.1 ++ x.2.1), x.2.2, 0)) else ([], [], 9))
 else ([], [], 2)
theorem null_any (v : S24) (w : World) : Calls Try.prog 47 #[.agg #[.int .i64 v.f0, .int .i64 v.f1]] w fun e w' => e = .returned (.bool (nullB v)) ∧ Below w.heap.size w w' := dict_null.calls v.f0 v.f1 _ w rfl
theorem placed_f (k : S24) (n : Int) : dict_placed.f k.f0 k.f1 n = some (placedB k n) := by
 unfold dict_placed.f placedB
 by_cases h : k.f0 = 3
 ·rw [if_pos h]
  by_cases h1 : k.f1 ≥ 1
  ·rw [if_pos h1]; simp [h]; omega
  ·rw [if_neg h1]; simp [h]; omega
 ·rw [if_neg h]; simp [h]
theorem placed_any (k : S24) (n : Int) (w : World) : Calls Try.prog 42 #[.agg #[.int .i64 k.f0, .int .i64 k.f1], .int .i64 n] w fun e w' => e = .returned (.bool (placedB k n)) ∧ Below w.heap.size w w' := dict_placed.calls k.f0 k.f1 n _ w (placed_f k n)
theorem key_f (v : S24) : val_Key.f v.f0 v.f1 = some (keyB v) := by
 unfold val_Key.f keyB
 by_cases h : v.f0 > 1
 ·rw [if_pos h, show decide (1 < v.f0) = true from decide_eq_true h]; rfl
 ·rw [if_neg h, show decide (1 < v.f0) = false from decide_eq_false h]; rfl
theorem key_any (v : S24) (w : World) : Calls Try.prog 32 #[.agg #[.int .i64 v.f0, .int .i64 v.f1]] w fun e w' => e = .returned (.bool (keyB v)) ∧ Below w.heap.size w w' := val_Key.calls v.f0 v.f1 _ w (key_f v)
def badB (v : S24) : Bool := !(H.mayB v.f0 v.f1) || (v.f0 == 0)
set_option maxHeartbeats 1000000 in
theorem bad_any (v : S24) (w : World) : Calls Try.prog 48 #[.agg #[.int .i64 v.f0, .int .i64 v.f1]] w fun e w' => e = .returned (.bool (badB v)) ∧ Below w.heap.size w w' := by
 by_cases hm : H.mayB v.f0 v.f1 = true
 ·go_enter Try.func48, Try.ntmps48
  go_wp2_with fail
  refine (H.may_any v.f0 v.f1 _ true hm).mono ?_
  rintro e w1 ⟨rfl, hb⟩
  have hk := blk_below (blk_new w (Obj.cells #[Value.int IntKind.i64 v.f0, Value.int IntKind.i64 v.f1] 24)) hb
  have c0 : w1.cell? ⟨w.heap.size, 0, none⟩ = some (.int .i64 v.f0) := (blk_cell hk 0).trans rfl
  have HB := Aside0.mk (below_step (below_alloc (Below.refl _ _) _) hb)
  clear hb hk
  go_wp2_with fail
  go_ret
  exact ⟨by unfold badB; rw [hm]; simp, HB.out⟩
 ·have hm : H.mayB v.f0 v.f1 = false := by simpa using hm
  go_enter Try.func48, Try.ntmps48
  go_wp2_with fail
  refine (H.may_any v.f0 v.f1 _ false hm).mono ?_
  rintro e w1 ⟨rfl, hb⟩
  have HB := Aside0.mk (below_step (below_alloc (Below.refl _ _) _) hb)
  clear hb
  go_wp2_with fail
  go_ret
  exact ⟨by unfold badB; rw [hm]; simp, HB.out⟩
def idxF (p : S24 → Bool) : List S24 → Int → Int
 | [], _ => -1
 | x :: l, k => if p x = true then k else idxF p l (k + 1)
set_option maxHeartbeats 4000000 in
theorem index_any (A : Option Addr) (c : Nat) (l : List S24) (w : World) (hr : Kd.C k24 w A l.length l) (hl : l.length ≤ 1000000) :
  Calls Try.prog 61 #[.slice A l.length c, .func (.func 48) #[] #[]] w fun e w' => e = .returned (.int .i64 (idxF badB l 0)) ∧ Below w.heap.size w w' := by
 have HR := Aside0.mk hr
 clear hr
 go_enter Try.func61, Try.ntmps61
 go_wp2_with fail
 go_loopw [8] (fun v wr => ∃ k : Nat, v = .int .i64 k ∧ k ≤ l.length ∧ idxF badB (l.drop k) k = idxF badB l 0 ∧ Below w.heap.size w wr) (fun v _ => l.length - (intOf v).toNat)
 case atStart => exact ⟨0, rfl, Nat.zero_le _, rfl, Below.refl _ _⟩
 case round =>
  obtain ⟨k, rfl, hk, hidx, hbel⟩ := hrel
  have HI := Aside0.mk hidx
  have HBL := Aside0.mk hbel
  have HCr := Aside0.mk (Kd.C_below HR.out hbel)
  clear hidx hbel
  by_cases hlt : k < l.length
  ·obtain ⟨ad, hA, c0, c1⟩ := at_T24 HCr.out k (by omega) (by omega)
   subst hA
   simp only [Int.toNat_natCast] at c0 c1
   have hx : l.drop k = rd_T24 l k :: l.drop (k + 1) := by
    rw [List.drop_eq_getElem_cons hlt]
    congr 1
    unfold rd_T24
    rw [Int.toNat_natCast, List.getD_eq_getElem?_getD, List.getElem?_eq_getElem hlt]
    rfl
   have HX := Aside0.mk hx
   clear hx
   obtain ⟨x, hxx⟩ : ∃ x, rd_T24 l k = x := ⟨_, rfl⟩
   have HXX := Aside0.mk hxx
   rw [hxx] at c0 c1
   clear hxx
   go_wp2_with fail
   refine (bad_any x wr).mono ?_
   rintro e w8 ⟨rfl, hb8⟩
   cases hpx : badB x with
   | true =>
    have hz := Aside0.mk (show idxF badB l 0 = k by rw [← HI.out, HX.out, HXX.out]; show (if badB x = true then (k : Int) else _) = k; rw [if_pos hpx])
    have HB8 := Aside0.mk (HBL.out.trans (hb8.mono HBL.out.size))
    clear hb8
    go_wp2_with fail
    go_ret
    exact ⟨by rw [hz.out]; rfl, HB8.out⟩
   | false =>
    have hz := Aside0.mk (show idxF badB (l.drop (k + 1)) ((k + 1 : Nat) : Int) = idxF badB l 0 by
     rw [← HI.out, HX.out, HXX.out]
     show _ = (if badB x = true then (k : Int) else idxF badB (l.drop (k + 1)) ((k : Int) + 1))
     rw [if_neg (by rw [hpx]; decide)]
     rfl)
    have HB8 := Aside0.mk (HBL.out.trans (hb8.mono HBL.out.size))
    clear hb8
    go_wp2_with fail
    go_roundw
    case rel => exact ⟨k + 1, by simp, hlt, hz.out, HB8.out⟩
    case measure => simp [intOf]; omega
  ·have hz := Aside0.mk (show idxF badB l 0 = -1 by rw [← HI.out, List.drop_eq_nil_of_le (by omega)]; rfl)
   go_wp2_with fail
   go_ret
   exact ⟨by rw [hz.out]; rfl, HBL.out⟩
theorem idxF_pos (p : S24 → Bool) : ∀ (l : List S24) (k : Int), 0 ≤ k → (idxF p l k ≥ 0 ↔ l.any p = true)
 | [], k, _ => by simp [idxF]
 | x :: l, k, h => by
  unfold idxF
  by_cases hp : p x = true
  ·rw [if_pos hp]; simp [hp, h]
  ·rw [if_neg hp, idxF_pos p l (k + 1) (by omega)]; simp [hp]
theorem any_bad (l : List S24) : l.any badB = !allB l := by
 unfold allB badB
 induction l with
 | nil => rfl
 | cons x l ih => rw [List.any_cons, List.all_cons, ih]; cases H.mayB x.f0 x.f1 <;> cases (x.f0 == 0) <;> simp
set_option maxHeartbeats 1000000 in
theorem contains_any (A : Option Addr) (c : Nat) (l : List S24) (w : World) (hr : Kd.C k24 w A l.length l) (hl : l.length ≤ 1000000) :
  Calls Try.prog 49 #[.slice A l.length c, .func (.func 48) #[] #[]] w fun e w' => e = .returned (.bool (!allB l)) ∧ Below w.heap.size w w' := by
 obtain ⟨n, hn⟩ : ∃ n, idxF badB l 0 = n := ⟨_, rfl⟩
 have hr2 : (!allB l) = decide (0 ≤ n) := by
  have := idxF_pos badB l 0 (Int.le_refl _)
  rw [hn, any_bad] at this
  rw [Bool.eq_iff_iff, decide_eq_true_iff]
  exact this.symm
 have hc := index_any A c l w hr hl
 rw [hn] at hc
 rw [hr2]
 clear hr2 hr hn
 have HCC := Aside0.mk hc
 clear hc
 go_enter Try.func49, Try.ntmps49
 go_wp2_with (with_reducible refine (HCC.out).mono ?_)
 rintro e w8 ⟨rfl, hb8⟩
 go_wp2_with fail
 go_ret
 exact ⟨rfl, hb8⟩
end Go.Proofs.YtadhkfklkbdabaaR.G
end
