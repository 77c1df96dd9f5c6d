import Derived.Deep.RegionLaw
import Derived.Deep.Cut
import Derived.WalkSpells
import Derived.Maps.OwnOps
import Derived.Maps.OwnSet
import Derived.Maps.Views
import Derived.Maps.Own
import Derived.DeepKeys5
import Derived.Outline
import Derived.Deep.AppendLies
import Derived.Laws.CopyRow
import Derived.Laws.CopyOwn
import Derived.StillTailTactics
import Derived.Test.YtadhkfklkbdabaaRPPuD1
set_option linter.unusedVariables false
set_option linter.unusedSimpArgs false
section
namespace Go.Proofs.YtadhkfklkbdabaaR.G
open Go.RowKit Go.Proofs.YtadhkfklkbdabaaRW.PrintWords Go.Proofs.YtadhkfklkbdabaaRW.PrintLast Go.Proofs.YtadhkfklkbdabaaRW.PrintMore
set_option linter.unusedVariables false
set_option linter.unusedSimpArgs false
theorem laidO : laidOutB Try.prog = true := by kernel_rfl
theorem law24 : Maps.Keyed Try.prog 24 := Maps.Keyed.of_law (deep_law_laid laidO (m := 5) (by decide) (k := 24) (of_decide_eq_true (by kernel_rfl)) (by kernel_rfl) (by kernel_rfl))
def inR (n : Int) : Bool := (Lit.int .i64 n).wf
theorem kl_int {t : TypeId} (d : Nat) (n : Int) (ht : Try.prog.underlying t = some (.int .i64)) (h : inR n = true) : Try.prog.keyLits (d + 1) t [.int .i64 n] = some [.int .i64 n] := by
 unfold inR at h
 unfold Program.keyLits
 simp only [ht]
 rw [if_pos ⟨trivial, h⟩]
theorem cells24 : Try.prog.cellsOf 24 = 2 := by kernel_rfl
theorem cells3 : Try.prog.cellsOf 3 = 1 := by kernel_rfl
theorem cells2 : Try.prog.cellsOf 2 = 1 := by kernel_rfl
theorem types98 : Try.prog.types.size + 1 = 98 := by kernel_rfl
theorem key24 (a b : Int) (ha : inR a = true) (hb : inR b = true) : ∃ l, keyOf Try.prog 24 (.agg #[.int .i64 a, .int .i64 b]) = some l := by
 have hk : Try.prog.keyType 24 = true := by kernel_rfl
 have hf : Value.formed Try.prog 24 (Value.agg #[Value.int IntKind.i64 a, Value.int IntKind.i64 b]) = true := by
  simp only [Value.formed, Try.underlying24, cells24]
  rfl
 have hl : Try.prog.keyLits 98 24 [.int .i64 a, .int .i64 b] = some [.int .i64 a, .int .i64 b] := by
  show Try.prog.keyLits (97 + 1) 24 [.int .i64 a, .int .i64 b] = _
  unfold Program.keyLits
  simp only [Try.underlying24]
  rw [if_pos ⟨cells24.symm, by simp⟩]
  have h1 := kl_int 96 a Try.underlying3 ha
  have h2 := kl_int 96 b Try.underlying2 hb
  simp [cells3, cells2, h1, h2]
 unfold keyOf
 simp only [Try.underlying24]
 rw [types98]
 simp [hk, hf, hl, Value.cells]
def inV (v : S24) : Bool := inR v.f0 && inR v.f1
def KL (v : S24) (l : Lit) : Prop := keyOf Try.prog 24 (.agg #[.int .i64 v.f0, .int .i64 v.f1]) = some l
theorem klV_eq {v : S24} (h : inV v = true) : ∃ l, KL v l := by
 unfold inV at h
 rw [Bool.and_eq_true] at h
 exact key24 v.f0 v.f1 h.1 h.2
theorem sameV_iff {a b : S24} : sameV a b = true ↔ a = b := by
 unfold sameV
 rw [Bool.and_eq_true, beq_iff_eq, beq_iff_eq]
 cases a; cases b
 simp
theorem klV_ne {a b : S24} {la lb : Lit} (ha : KL a la) (hb : KL b lb) (h : sameV a b = false) : la ≠ lb := fun e => by
 rw [← e] at hb
 have h3 := law24.inj ha hb
 simp only [Value.agg.injEq, Array.mk.injEq, List.cons.injEq, Value.int.injEq, true_and, and_true] at h3
 have : sameV a b = true := by unfold sameV; rw [h3.1, h3.2]; simp
 rw [this] at h; cases h
theorem klV_key {v : S24} {l : Lit} (h : KL v l) : WideAt.IsKeyLit l := law24.key h
theorem idxP_snoc (q k v : S24) : ∀ (m : Nat) (L : List S24) (i : Nat), L.length = 2 * m → idxP q (L ++ [k, v]) i = match idxP q L i with | some j => some j | none => if sameV k q = true then some (i + 2 * m) else none
 | 0, L, i, h => by
  obtain rfl : L = [] := List.eq_nil_of_length_eq_zero (by omega)
  simp [idxP]
 | m + 1, a :: b :: L, i, h => by
  rw [List.cons_append, List.cons_append]
  unfold idxP
  by_cases e : sameV a q = true
  ·rw [if_pos e, if_pos e]
  ·rw [if_neg e, if_neg e, idxP_snoc q k v m L (i + 2) (by simp at h; omega), show i + 2 + 2 * m = i + 2 * (m + 1) by omega]
 | m + 1, [], i, h => by simp at h
 | m + 1, [a], i, h => by simp at h; omega
structure MapL (D : DataW Unit) (L : List S24) : Prop where
 im : Maps.IsMap D
 has : ∀ k l, KL k l → Maps.has D l = (idxP k L 0).isSome
 at_ : ∀ k l i, KL k l → idxP k L 0 = some i → ∀ z, D.atKey l z = .lit (.int .i64 (i : Int))
theorem MapL.nil : MapL (.map []) [] := ⟨Maps.isMap_empty, fun _ _ _ => rfl, fun _ _ _ _ h => by cases h⟩
theorem MapL.put {D : DataW Unit} {L : List S24} {k v : S24} {kl : Lit} {m : Nat} (h : MapL D L) (hl : L.length = 2 * m) (hk : KL k kl) (hn : idxP k L 0 = none) :
  MapL (D.put kl (.lit (.int .i64 ((2 * m : Nat) : Int)))) (L ++ [k, v]) := by
 refine ⟨h.im.put _ _, fun q ql hq => ?_, fun q ql i hq hi z => ?_⟩
 ·rw [idxP_snoc q k v m L 0 hl]
  by_cases e : sameV k q = true
  ·obtain rfl := sameV_iff.1 e
   obtain rfl : kl = ql := Option.some.inj (hk.symm.trans hq)
   rw [Maps.has_put_same h.im (klV_key hk), hn]
   simp [e]
  ·have e' : sameV q k = false := by
    cases e2 : sameV q k with
    | false => rfl
    | true => exact absurd (sameV_iff.2 (sameV_iff.1 e2).symm) e
   rw [Maps.has_put_other (klV_ne hq hk e'), h.has q ql hq]
   cases idxP q L 0 with
   | none => simp [e]
   | some j => rfl
 ·rw [idxP_snoc q k v m L 0 hl] at hi
  by_cases e : sameV k q = true
  ·obtain rfl := sameV_iff.1 e
   obtain rfl : kl = ql := Option.some.inj (hk.symm.trans hq)
   rw [hn] at hi
   simp only [e, if_true, Nat.zero_add, Option.some.injEq] at hi
   subst hi
   exact Maps.atKey_put_same h.im (klV_key hk) _ _
  ·have e' : sameV q k = false := by
    cases e2 : sameV q k with
    | false => rfl
    | true => exact absurd (sameV_iff.2 (sameV_iff.1 e2).symm) e
   rw [Maps.atKey_put_other (klV_ne hq hk e')]
   cases hj : idxP q L 0 with
   | none => rw [hj] at hi; simp [e] at hi
   | some j =>
    rw [hj] at hi
    simp only [Option.some.injEq] at hi
    subst hi
    exact h.at_ q ql j hq hj z
def keysL : List S24 → List S24
 | a :: _ :: r => a :: keysL r
 | _ => []
theorem seen_idx (q : S24) : ∀ (m : Nat) (L : List S24) (i : Nat), L.length = 2 * m → (keysL L).any (fun a => sameV a q) = (idxP q L i).isSome
 | 0, L, i, h => by
  obtain rfl : L = [] := List.eq_nil_of_length_eq_zero (by omega)
  rfl
 | m + 1, a :: b :: L, i, h => by
  unfold keysL idxP
  rw [List.any_cons]
  by_cases e : sameV a q = true
  ·rw [if_pos e, e]; rfl
  ·rw [if_neg e, seen_idx q m L (i + 2) (by simp at h; omega)]
   simp [e]
 | m + 1, [], i, h => by simp at h
 | m + 1, [a], i, h => by simp at h; omega
theorem keysL_snoc (k v : S24) : ∀ (m : Nat) (L : List S24), L.length = 2 * m → keysL (L ++ [k, v]) = keysL L ++ [k]
 | 0, L, h => by
  obtain rfl : L = [] := List.eq_nil_of_length_eq_zero (by omega)
  rfl
 | m + 1, a :: b :: L, h => by
  rw [List.cons_append, List.cons_append]
  unfold keysL
  rw [keysL_snoc k v m L (by simp at h; omega)]
  rfl
 | m + 1, [], h => by simp at h
 | m + 1, [a], h => by simp at h; omega
def PartsR (l : List S24) (w : World) (e : Ending) (w' : World) : Prop :=
 (okS l = false ∧ e = .returned (.tuple #[.slice none 0 0, .slice none 0 0, .map none, .bool false])) ∨
 (okS l = true ∧ ∃ Aa ca Ap cp b N, ∃ D : DataW Unit, e = .returned (.tuple #[.slice Aa (arrS l).length ca, .slice Ap (prsS l).length cp, .map (some b), .bool true]) ∧ (arrS l).length ≤ ca ∧ (prsS l).length ≤ cp ∧
  Kd.C k24 w' Aa (arrS l).length (arrS l) ∧ Kd.C k24 w' Ap (prsS l).length (prsS l) ∧ w'.ownsMap Try.prog 24 (plainElem Try.prog 3) b N D ∧ MapL D (prsS l))
def PartsQ (l : List S24) (w : World) (e : Ending) (w' : World) : Prop := PartsR l w e w' ∧ Below w.heap.size w w'
theorem PartsQ.no {l : List S24} {w w' : World} (h : okS l = false) (hb : Below w.heap.size w w') : PartsQ l w (.returned (.tuple #[.slice none 0 0, .slice none 0 0, .map none, .bool false])) w' := ⟨.inl ⟨h, rfl⟩, hb⟩
theorem okS_head {l : List S24} (h : headB l = false) : okS l = false := by unfold okS; rw [h]; rfl
def lead (l : List S24) : Bool := allB l && (nullB (rd_T24 l 0) || (rd_T24 l 0).f0 == 6)
theorem okS_lead {l : List S24} (h : lead l = false) : okS l = false := by
 unfold lead at h
 unfold okS
 cases ha : allB l with
 | false => simp
 | true =>
  rw [ha, Bool.true_and] at h
  rw [h]
  simp
def evenB (l : List S24) : Bool := ((prsS l).length % 2 == 0) && !(decide (0 < arrN l) && nullB (rd_T24 l (1 + arrN l)))
theorem okS_even {l : List S24} (h : evenB l = false) : okS l = false := by
 unfold evenB at h
 unfold okS
 cases he : ((prsS l).length % 2 == 0) with
 | false => simp
 | true =>
  rw [he, Bool.true_and] at h
  rw [h]
  simp
theorem okS_eq {l : List S24} (h1 : headB l = true) (h2 : lead l = true) (h3 : evenB l = true) : okS l = keysOk (arrN l) (prsS l) [] := by
 unfold lead at h2
 unfold evenB at h3
 rw [Bool.and_eq_true] at h2 h3
 unfold okS
 rw [h1, h2.1, h2.2, h3.1, h3.2]
 simp
def rowB (n : Int) (k v : S24) (seen : List S24) : Bool := !(seen.any (fun a => sameV a k)) && (keyB k && (!nullB v && !placedB k (n + 1)))
theorem keysOk_cons (n : Int) (k v : S24) (r seen : List S24) : keysOk n (k :: v :: r) seen = (rowB n k v seen && keysOk n r (seen ++ [k])) := by
 rw [keysOk]
 unfold rowB
 cases !(seen.any (fun a => sameV a k)) <;> cases keyB k <;> cases nullB v <;> cases placedB k (n + 1) <;> simp
structure LoopI (l : List S24) (b : Nat) (w wr : World) (j : Nat) (D : DataW Unit) : Prop where
 bel : Below w.heap.size w wr
 keys : keysOk (arrN l) ((prsS l).drop (2 * j)) (keysL ((prsS l).take (2 * j))) = okS l
 own : wr.ownsMap Try.prog 24 (plainElem Try.prog 3) b j D
 map : MapL D ((prsS l).take (2 * j))
theorem zero3 (w : World) : (zeroValue 3).run Try.prog w = .ok (.int .i64 0) w := by kernel_rfl
theorem two_drop {l : List S24} {j : Nat} (h : 2 * j + 1 < l.length) : l.drop (2 * j) = rd_T24 l ((2 * j : Nat) : Int) :: rd_T24 l ((2 * j + 1 : Nat) : Int) :: l.drop (2 * (j + 1)) := by
 rw [List.drop_eq_getElem_cons (by omega), List.drop_eq_getElem_cons (by omega)]
 unfold rd_T24
 rw [Int.toNat_natCast, Int.toNat_natCast, List.getD_eq_getElem?_getD, List.getD_eq_getElem?_getD, List.getElem?_eq_getElem (by omega), List.getElem?_eq_getElem h]
 rfl
theorem two_take {l : List S24} {j : Nat} (h : 2 * j + 1 < l.length) : l.take (2 * (j + 1)) = l.take (2 * j) ++ [rd_T24 l ((2 * j : Nat) : Int), rd_T24 l ((2 * j + 1 : Nat) : Int)] := by
 have h1 : l.take (2 * (j + 1)) = l.take (2 * j) ++ (l.drop (2 * j)).take 2 := by rw [← List.take_add]; rfl
 rw [h1, two_drop h]
 rfl
theorem Map_below {w w' : World} {b n : Nat} {D : DataW Unit} (h : w.ownsMap Try.prog 24 (plainElem Try.prog 3) b n D) (hb : Below w.heap.size w w') : w'.ownsMap Try.prog 24 (plainElem Try.prog 3) b n D := by
 have hlt := h.lt
 obtain ⟨es, clock, h1, h2⟩ := h
 exact ⟨es, clock, (hb.block b hlt).trans h1, h2⟩
theorem inR_small {n : Int} (h0 : 0 ≤ n) (h1 : n ≤ 1000000) : (Lit.int .i64 n).wf = true := by
 simp only [Lit.wf, Bool.and_eq_true, decide_eq_true_eq]
 have e0 : IntKind.i64.min = -9223372036854775808 := rfl
 have e1 : IntKind.i64.max = 9223372036854775807 := rfl
 rw [e0, e1]
 omega
theorem evenB_odd {l : List S24} (h : ((prsS l).length : Int) % 2 = 1) : evenB l = false := by
 unfold evenB
 rw [show ((prsS l).length % 2 == 0) = false by rw [beq_eq_false_iff_ne]; omega]; rfl
theorem evenB_none {l : List S24} (h : ((prsS l).length : Int) % 2 = 0) (h2 : arrN l = 0) : evenB l = true := by
 unfold evenB
 rw [show ((prsS l).length % 2 == 0) = true by rw [beq_iff_eq]; omega, h2]; rfl
theorem evenB_last {l : List S24} (h : ((prsS l).length : Int) % 2 = 0) (h2 : 0 < arrN l) : evenB l = !(nullB (rd_T24 l (1 + (arrN l : Int)))) := by
 unfold evenB
 rw [show ((prsS l).length % 2 == 0) = true by rw [beq_iff_eq]; omega, decide_eq_true h2]
 simp
theorem len_arr {l : List S24} (h : headB l = true) : (arrS l).length = arrN l := by
 unfold headB at h
 simp only [Bool.and_eq_true, decide_eq_true_eq, beq_iff_eq] at h
 obtain ⟨g0, _, g2, g3⟩ := h
 unfold arrS arrN
 simp only [List.length_take, List.length_drop]
 omega
theorem last_arr {l : List S24} (h : headB l = true) (hp : 0 < (arrS l).length) : rd_T24 (arrS l) (((arrS l).length : Int) - 1) = rd_T24 l (1 + (arrN l : Int)) := by
 have h1 := len_arr h
 unfold rd_T24
 rw [show ((((arrS l).length : Int) - 1)).toNat = arrN l - 1 by omega, show (1 + (arrN l : Int)).toNat = 2 + (arrN l - 1) by omega]
 unfold arrS
 rw [List.getD_eq_getElem?_getD, List.getD_eq_getElem?_getD, List.getElem?_take_of_lt (by omega), List.getElem?_drop]
set_option maxHeartbeats 4000000 in
set_option maxRecDepth 100000 in
theorem parts_any (A : Option Addr) (c : Nat) (l : List S24) (w : World) (hr : Kd.C k24 w A l.length l) (hc : l.length ≤ c) (hl : l.length ≤ 1000000) (hin : ∀ v ∈ l, inV v = true) :
  Calls Try.prog 30 #[.slice A l.length c] w (PartsQ l w) := by
 have HR := Aside0.mk hr
 have HC := Aside0.mk hc
 have HIN := Aside0.mk hin
 clear hr hc hin
 by_cases e0 : (l.length : Int) < 2
 ·have b0 : decide ((l.length : Int) < 2) = true := decide_eq_true e0
  have hh : headB l = false := by unfold headB; rw [decide_eq_false (by omega)]; rfl
  have HH := Aside0.mk (okS_head hh)
  clear hh
  go_enter Try.func30, Try.ntmps30
  go_wp2_with fail
  exact bodyPost_ret (v := .tuple #[.slice none 0 0, .slice none 0 0, .map none, .bool false]) (by simp [results, Try.results30, go_sem]) rfl (PartsQ.no HH.out (Below.refl _ _))
 have b0 : decide ((l.length : Int) < 2) = false := decide_eq_false e0
 obtain ⟨ad, rfl, c10, c11⟩ := at_T24 HR.out 1 (by omega) (by omega)
 obtain ⟨ad', hA, c00, c01⟩ := at_T24 HR.out 0 (by omega) (by omega)
 injection hA with hA
 subst hA
 simp only [show (1 : Int).toNat = 1 from rfl, show (0 : Int).toNat = 0 from rfl, Nat.reduceMul, Nat.reduceEqDiff, Go.Addr.add, ↓reduceIte] at c10 c11 c00 c01
 by_cases hh : headB l = true
 ·have h5 := hh
  unfold headB at h5
  simp only [Bool.and_eq_true, decide_eq_true_eq, beq_iff_eq] at h5
  obtain ⟨g0, g1, g2, g3⟩ := h5
  have b1 : ((rd_T24 l 1).f0 == 3) = true := by simpa using g1
  have b2 : decide ((rd_T24 l 1).f1 < 0) = false := decide_eq_false (by omega)
  have b3 : decide ((l.length : Int) - 2 < (rd_T24 l 1).f1) = false := decide_eq_false (by omega)
  have HH := Aside0.mk hh
  clear hh
  obtain ⟨n, hn⟩ : ∃ n : Nat, (rd_T24 l 1).f1 = (n : Int) := ⟨(rd_T24 l 1).f1.toNat, by omega⟩
  have HN := Aside0.mk (show arrN l = n by unfold arrN; rw [hn]; rfl)
  rw [hn] at b2 b3 c11 g2 g3
  clear hn
  have hln : 2 + n ≤ l.length := by omega
  go_enter Try.func30, Try.ntmps30
  go_upto_region 4 with (fail)
  go_cut [55] from 134 (fun v55 wx => v55 = .bool (!(lead l)) ∧ Below w.heap.size w wx)
  case first =>
   go_wp2_with fail
   refine (contains_any _ c l w HR.out hl).mono ?_
   rintro e w1 ⟨rfl, hb⟩
   have d00 := Go.cell_later hb c00
   have d01 := Go.cell_later hb c01
   have HB := Aside0.mk hb
   clear hb c00 c01
   cases ha : allB l with
   | false =>
    go_wp2_with fail
    go_meet
    case rel => exact ⟨by unfold lead; rw [ha]; simp, HB.out⟩
   | true =>
    go_wp2_with fail
    refine (null_any (rd_T24 l 0) _).mono ?_
    rintro e w2 ⟨rfl, hb2⟩
    have k00 := Go.cell_later hb2 d00
    have HB2 := Aside0.mk (HB.out.trans (hb2.mono HB.out.size))
    clear hb2 d00 d01
    cases hn : nullB (rd_T24 l 0) with
    | true =>
     go_wp2_with fail
     go_meet
     case rel => exact ⟨by unfold lead; rw [ha, hn]; rfl, HB2.out⟩
    | false =>
     go_wp2_with fail
     go_meet
     case rel => exact ⟨by unfold lead; rw [ha, hn]; simp; rfl, HB2.out⟩
  case rest =>
   obtain ⟨rfl, hb⟩ := hcut
   have HB := Aside0.mk hb
   have d11 := Go.cell_later hb c11
   clear hb c00 c01 c10 c11
   cases hle : lead l with
   | false =>
    have HL := Aside0.mk (okS_lead hle)
    go_wp2_with fail
    exact bodyPost_ret (v := .tuple #[.slice none 0 0, .slice none 0 0, .map none, .bool false]) (by simp [results, Try.results30, go_sem]) rfl (PartsQ.no HL.out HB.out)
   | true =>
    have HL := Aside0.mk hle
    clear hle
    go_upto_region 7 with (fail)
    go_cut [2, 3] from 134 (fun v2 v3 wx => ∃ Aa ca Ap cp, v2 = .slice Aa (arrS l).length ca ∧ v3 = .slice Ap (prsS l).length cp ∧ (arrS l).length ≤ ca ∧ (prsS l).length ≤ cp ∧ Kd.C k24 wx Aa (arrS l).length (arrS l) ∧ Kd.C k24 wx Ap (prsS l).length (prsS l) ∧ Below w.heap.size w wx)
    case first =>
     have hca := Kd.C_drop (Kd.C_take HR.out hln) (m := 2) (c := 2 + n) (by simp; omega) (by rw [List.length_take]; omega)
     have hcp := Kd.C_drop HR.out hln (Nat.le_refl _)
     have hla : (l.take (2 + n)).drop 2 = arrS l := by unfold arrS; rw [HN.out, List.drop_take]; congr 1; omega
     have hlp : l.drop (2 + n) = prsS l := by unfold prsS; rw [HN.out]
     rw [hla] at hca
     rw [hlp] at hcp
     have hna : (arrS l).length = n := by rw [← hla]; simp; omega
     have hnp : (prsS l).length = l.length - (2 + n) := by rw [← hlp]; simp
     have HCA := Aside0.mk hca
     have HCP := Aside0.mk hcp
     have HNA := Aside0.mk hna
     have HNP := Aside0.mk hnp
     have HLC := HC.out
     clear hca hcp hla hlp hna hnp
     have hx : max (2 + (n : Int)) 0 = 2 + (n : Int) := by omega
     have h20 : (0 : Int) ≤ 2 + (n : Int) := by omega
     have h22 : (2 : Int) ≤ 2 + (n : Int) := by omega
     have h2c : 2 + (n : Int) ≤ (c : Int) := by omega
     have h2l : 2 + (n : Int) ≤ (l.length : Int) := by omega
     have hlc : (l.length : Int) ≤ (c : Int) := by omega
     by_cases k0 : 2 + n = 2
     ·have t0 : (n = 0) = True := eq_true (by omega)
      have t0' : (2 + n = 2) = True := eq_true k0
      have K0 := Aside0.mk k0
      clear k0
      by_cases k1 : l.length = 2 + n
      ·have t1 : (l.length = 2 + n) = True := eq_true k1
       have K1 := Aside0.mk k1
       clear k1
       go_region
       go_wp2_with fail
       go_meet
       case rel =>
        have a1 := HCA.out
        have a2 := HCP.out
        rw [if_pos K0.out] at a1
        rw [if_pos K1.out] at a2
        try simp only [Option.map_some, show k24.sz = 2 from rfl, Nat.reduceMul, Go.Addr.add, Nat.reduceEqDiff, ↓reduceIte] at a1
        have hbw := below_drew HB.out
        exact ⟨_, n, _, l.length - (2 + n), by first | (rw [HNA.out]; done) | (rw [HNA.out]; simp; done) | (have := K0.out; rw [HNA.out]; congr 1 <;> omega), by first | (rw [HNP.out]; done) | (have := K0.out; have := K1.out; rw [HNP.out]; congr 1 <;> omega), by rw [HNA.out]; exact Nat.le_refl _, by rw [HNP.out]; exact Nat.le_refl _, Kd.C_below a1 hbw, Kd.C_below a2 hbw, hbw⟩
      ·have K1 := Aside0.mk k1
       go_region
       go_wp2_with fail
       go_meet
       case rel =>
        have a1 := HCA.out
        have a2 := HCP.out
        rw [if_pos K0.out] at a1
        rw [if_neg K1.out] at a2
        try simp only [Option.map_some, show k24.sz = 2 from rfl, Nat.reduceMul, Go.Addr.add, Nat.reduceEqDiff, ↓reduceIte] at a1
        have hbw := below_drew HB.out
        exact ⟨_, n, _, l.length - (2 + n), by first | (rw [HNA.out]; done) | (rw [HNA.out]; simp; done) | (have := K0.out; rw [HNA.out]; congr 1 <;> omega), by first | (rw [HNP.out]; done) | (have := K0.out; have := K1.out; rw [HNP.out]; congr 1 <;> omega), by rw [HNA.out]; exact Nat.le_refl _, by rw [HNP.out]; exact Nat.le_refl _, Kd.C_below a1 hbw, Kd.C_below a2 hbw, hbw⟩
     ·have t0 : ¬ n = 0 := by omega
      have K0 := Aside0.mk k0
      by_cases k1 : l.length = 2 + n
      ·have t1 : (l.length = 2 + n) = True := eq_true k1
       have K1 := Aside0.mk k1
       clear k1
       go_region
       go_wp2_with fail
       go_meet
       case rel =>
        have a1 := HCA.out
        have a2 := HCP.out
        rw [if_neg K0.out] at a1
        rw [if_pos K1.out] at a2
        try simp only [Option.map_some, show k24.sz = 2 from rfl, Nat.reduceMul, Go.Addr.add, Nat.reduceEqDiff, ↓reduceIte] at a1
        have hbw := below_drew HB.out
        exact ⟨_, n, _, l.length - (2 + n), by first | (rw [HNA.out]; done) | (rw [HNA.out]; simp; done) | (have := K0.out; rw [HNA.out]; congr 1 <;> omega), by first | (rw [HNP.out]; done) | (have := K0.out; have := K1.out; rw [HNP.out]; congr 1 <;> omega), by rw [HNA.out]; exact Nat.le_refl _, by rw [HNP.out]; exact Nat.le_refl _, Kd.C_below a1 hbw, Kd.C_below a2 hbw, hbw⟩
      ·have K1 := Aside0.mk k1
       go_region
       go_wp2_with fail
       go_meet
       case rel =>
        have a1 := HCA.out
        have a2 := HCP.out
        rw [if_neg K0.out] at a1
        rw [if_neg K1.out] at a2
        try simp only [Option.map_some, show k24.sz = 2 from rfl, Nat.reduceMul, Go.Addr.add, Nat.reduceEqDiff, ↓reduceIte] at a1
        have hbw := below_drew HB.out
        exact ⟨_, n, _, l.length - (2 + n), by first | (rw [HNA.out]; done) | (rw [HNA.out]; simp; done) | (have := K0.out; rw [HNA.out]; congr 1 <;> omega), by first | (rw [HNP.out]; done) | (have := K0.out; have := K1.out; rw [HNP.out]; congr 1 <;> omega), by rw [HNA.out]; exact Nat.le_refl _, by rw [HNP.out]; exact Nat.le_refl _, Kd.C_below a1 hbw, Kd.C_below a2 hbw, hbw⟩
    case rest =>
     obtain ⟨Aa, ca, Ap, cp, rfl, rfl, hla, hlp, hCa, hCp, hbb⟩ := hcut
     have HCA := Aside0.mk hCa
     have HCP := Aside0.mk hCp
     have HLA := Aside0.mk hla
     have HLP := Aside0.mk hlp
     have HBB := Aside0.mk hbb
     clear hCa hCp hla hlp hbb d11 HB
     have hsm : (arrS l).length ≤ 1000000 := by rw [len_arr HH.out, HN.out]; omega
     have hsp : (prsS l).length ≤ 1000000 := by unfold prsS; rw [List.length_drop]; omega
     go_upto_region 8 with (fail)
     go_cut [89] from 134 (fun v89 wx => v89 = .bool (!(evenB l)) ∧ Below w.heap.size w wx ∧ Kd.C k24 wx Aa (arrS l).length (arrS l) ∧ Kd.C k24 wx Ap (prsS l).length (prsS l))
     case first =>
      by_cases he : ((prsS l).length : Int) % 2 = 0
      ·by_cases hz : 0 < ((arrS l).length : Int)
       ·have hz' : decide (0 < ((arrS l).length : Int)) = true := decide_eq_true hz
        obtain ⟨aa, rfl, q0, q1⟩ := at_T24 HCA.out (((arrS l).length : Int) - 1) (by omega) (by omega)
        have hla : rd_T24 (arrS l) (((arrS l).length : Int) - 1) = rd_T24 l (1 + (arrN l : Int)) := last_arr HH.out (by omega)
        have hlb : 0 < arrN l := by have := len_arr HH.out; omega
        rw [show (((arrS l).length : Int) - 1).toNat = (arrS l).length - 1 by omega, hla] at q0 q1
        have HEV := Aside0.mk (evenB_last he hlb)
        clear hla hlb
        obtain ⟨z, hz9⟩ : ∃ z, z = rd_T24 l (1 + (arrN l : Int)) := ⟨_, rfl⟩
        rw [← hz9] at q0 q1 HEV
        clear hz9
        go_wp2_with fail
        refine (null_any z _).mono ?_
        rintro e w3 ⟨rfl, hb3⟩
        have HB3 := Aside0.mk hb3
        clear hb3
        go_wp2_with fail
        go_meet
        case rel => exact ⟨by rw [HEV.out]; simp, HBB.out.trans (HB3.out.mono HBB.out.size), Kd.C_below HCA.out HB3.out, Kd.C_below HCP.out HB3.out⟩
       ·have hz' : decide (0 < ((arrS l).length : Int)) = false := decide_eq_false hz
        have HEV := Aside0.mk (evenB_none he (by have := len_arr HH.out; omega))
        go_wp2_with fail
        go_meet
        case rel => exact ⟨by rw [HEV.out]; rfl, HBB.out, HCA.out, HCP.out⟩
      ·have he1 : ((prsS l).length : Int) % 2 = 1 := by omega
       have HEV := Aside0.mk (evenB_odd he1)
       clear he
       go_wp2_with fail
       go_meet
       case rel => exact ⟨by rw [HEV.out]; rfl, HBB.out, HCA.out, HCP.out⟩
     case rest =>
      clear HCA HCP HBB
      obtain ⟨rfl, hb, hCa, hCp⟩ := hcut
      have HCA := Aside0.mk hCa
      have HCP := Aside0.mk hCp
      have HBB := Aside0.mk hb
      clear hCa hCp hb
      cases hev : evenB l with
      | false =>
       have HE := Aside0.mk (okS_even hev)
       go_wp2_with fail
       exact bodyPost_ret (v := .tuple #[.slice none 0 0, .slice none 0 0, .map none, .bool false]) (by simp [results, Try.results30, go_sem]) rfl (PartsQ.no HE.out HBB.out)
      | true =>
       have HOK := Aside0.mk (okS_eq HH.out HL.out hev)
       have HEV2 := Aside0.mk hev
       clear hev
       have hmm := @run_makeMap Try.prog
       go_wp2_with fail
       have hev2 : ((prsS l).length : Int) % 2 = 0 := by
        have h6 := HEV2.out
        unfold evenB at h6
        rw [Bool.and_eq_true, beq_iff_eq] at h6
        omega
       obtain ⟨b, hb0⟩ : ∃ b, b = wc.heap.size := ⟨_, rfl⟩
       have HLI : Aside0 (∃ D, LoopI l b wc (wc.alloc (.map #[] 0)) 0 D) := ⟨_, below_alloc (Below.refl _ _) _, by rw [HOK.out]; rfl, by rw [hb0]; exact World.ownsMap_made _ _ _ _, MapL.nil⟩
       rw [← hb0]
       have HBZ := Aside0.mk (Nat.le_of_eq hb0.symm)
       clear hb0 hmm
       go_loopw [2, 3, 4, 5, 8] (fun v2 v3 v4 v5 v8 wr => v2 = .slice Aa (arrS l).length ca ∧ v3 = .slice Ap (prsS l).length cp ∧ v4 = .map (some b) ∧ v5 = .bool false ∧ ∃ j : Nat, v8 = .int .i64 ((2 * j : Nat) : Int) ∧ 2 * j ≤ (prsS l).length ∧ Aside0 (∃ D, LoopI l b wc wr j D)) (fun _ _ _ _ v8 _ => (prsS l).length - (intOf v8).toNat)
       case atStart => exact ⟨rfl, rfl, rfl, rfl, 0, rfl, Nat.zero_le _, HLI⟩
       case round =>
        clear HLI
        obtain ⟨rfl, rfl, rfl, rfl, j, rfl, hj, HLI⟩ := hrel
        by_cases hlt : 2 * j < (prsS l).length
        ·obtain ⟨D, hLI⟩ := HLI.out
         have HI := Aside0.mk hLI
         clear hLI HLI
         have hlt1 : 2 * j + 1 < (prsS l).length := by omega
         obtain ⟨ap, rfl, q0, q1⟩ := at_T24 (Kd.C_below HCP.out HI.out.bel) ((2 * j : Nat) : Int) (by omega) (by omega)
         obtain ⟨ap', hA, q2, q3⟩ := at_T24 (Kd.C_below HCP.out HI.out.bel) ((2 * j + 1 : Nat) : Int) (by omega) (by omega)
         injection hA with hA
         subst hA
         rw [Int.toNat_natCast] at q0 q1 q2 q3
         have hltc : ((2 * j : Nat) : Int) < ((prsS l).length : Int) := by omega
         obtain ⟨kv, hkv⟩ : ∃ x, x = rd_T24 (prsS l) ((2 * j : Nat) : Int) := ⟨_, rfl⟩
         obtain ⟨vv, hvv⟩ : ∃ x, x = rd_T24 (prsS l) ((2 * j + 1 : Nat) : Int) := ⟨_, rfl⟩
         rw [← hkv] at q0 q1
         rw [← hvv] at q2 q3
         have hdr := two_drop hlt1
         have htk := two_take hlt1
         rw [← hkv, ← hvv] at hdr htk
         have HDR := Aside0.mk hdr
         have HTK := Aside0.mk htk
         have hmem : kv ∈ l := by
          have h1 : kv ∈ prsS l := by
           have : kv ∈ (prsS l).drop (2 * j) := by rw [hdr]; exact List.mem_cons_self
           exact List.mem_of_mem_drop this
          exact List.mem_of_mem_drop h1
         obtain ⟨kl, hkl⟩ := klV_eq (HIN.out kv hmem)
         have HKL := Aside0.mk hkl
         have hhas := HI.out.map.has kv kl hkl
         have hseen := seen_idx kv j ((prsS l).take (2 * j)) 0 (by rw [List.length_take]; omega)
         have HHS := Aside0.mk (hhas.trans hseen.symm)
         clear hkv hvv hdr htk hmem hkl hhas hseen
         obtain ⟨tw, htw⟩ : ∃ x, x = (keysL ((prsS l).take (2 * j))).any (fun a => sameV a kv) := ⟨_, rfl⟩
         rw [← htw] at HHS
         have HTW := Aside0.mk htw
         clear htw
         go_upto_region 16 with (at_lookup; refine wpList_lookup_own_ok_int _ rfl _ _ 54 rfl 24 3 .i64 law24 Try.underlying54 Try.underlying3 (zero3 _) b j D rfl (HI.out.own.alloc _) _ kl rfl HKL.out ?_; intro c9 hat9 hwc9; rw [HHS.out]; clear hat9 hwc9)
         obtain ⟨W1, hW1⟩ : ∃ x, x = (wr.alloc (.cells #[.int .i64 kv.f0, .int .i64 kv.f1] 24)) := ⟨_, rfl⟩
         have HBW := Aside0.mk (show Below wr.heap.size wr W1 by rw [hW1]; exact below_alloc (Below.refl _ _) _)
         have HKX := Aside0.mk (show W1.heap[wr.heap.size]? = some (.cells #[.int .i64 kv.f0, .int .i64 kv.f1] 24 (0, 0)) by rw [hW1]; exact blk_new _ _)
         have HOW := Aside0.mk (show W1.ownsMap Try.prog 24 (plainElem Try.prog 3) b j D by rw [hW1]; exact HI.out.own.alloc _)
         rw [← hW1]
         have q2' := Go.cell_later HBW.out q2
         have q3' := Go.cell_later HBW.out q3
         clear hW1 q0 q1 q2 q3
         have lb : b < wr.heap.size := HI.out.own.lt
         go_cut [127] from 134 (fun v127 wx => v127 = .bool (!(rowB (arrN l) kv vv (keysL ((prsS l).take (2 * j))))) ∧ Below W1.heap.size W1 wx)
         case first =>
          have m0 : W1.cell? ⟨wr.heap.size, 0, none⟩ = some (.int .i64 kv.f0) := (blk_cell HKX.out 0).trans rfl
          have m1 : W1.cell? ⟨wr.heap.size, 1, none⟩ = some (.int .i64 kv.f1) := (blk_cell HKX.out 1).trans rfl
          cases tw with
          | true =>
           go_wp2_with fail
           go_meet
           case rel => exact ⟨by unfold rowB; rw [← HTW.out]; rfl, Below.refl _ _⟩
          | false =>
           go_wp2_with fail
           refine (key_any kv _).mono ?_
           rintro e w5 ⟨rfl, hb5⟩
           have HB5 := Aside0.mk hb5
           have r2 := Go.cell_later hb5 q2'
           have r3 := Go.cell_later hb5 q3'
           clear hb5 m0 m1 q2' q3'
           cases hkb : keyB kv with
           | false =>
            go_wp2_with fail
            go_meet
            case rel => exact ⟨by unfold rowB; rw [← HTW.out, hkb]; rfl, HB5.out⟩
           | true =>
            go_wp2_with fail
            refine (null_any vv _).mono ?_
            rintro e w6 ⟨rfl, hb6⟩
            have HB6 := Aside0.mk (HB5.out.trans (hb6.mono HB5.out.size))
            have hk6 := blk_below (blk_below HKX.out HB5.out) hb6
            have m0 : w6.cell? ⟨wr.heap.size, 0, none⟩ = some (.int .i64 kv.f0) := (blk_cell hk6 0).trans rfl
            have m1 : w6.cell? ⟨wr.heap.size, 1, none⟩ = some (.int .i64 kv.f1) := (blk_cell hk6 1).trans rfl
            clear hb6 hk6 r2 r3
            cases hnb : nullB vv with
            | true =>
             go_wp2_with fail
             go_meet
             case rel => exact ⟨by unfold rowB; rw [← HTW.out, hkb, hnb]; rfl, HB6.out⟩
            | false =>
             go_wp2_with fail
             refine (placed_any kv ((arrS l).length + 1) _).mono ?_
             rintro e w7 ⟨rfl, hb7⟩
             have HB7 := Aside0.mk (HB6.out.trans (hb7.mono HB6.out.size))
             clear hb7 m0 m1
             go_wp2_with fail
             go_meet
             case rel => exact ⟨by unfold rowB; rw [← HTW.out, hkb, hnb, len_arr HH.out]; simp, HB7.out⟩
         case rest =>
          obtain ⟨rfl, hbx⟩ := hcut
          have HOX := Aside0.mk (show wc.ownsMap Try.prog 24 (plainElem Try.prog 3) b j D from Map_below HOW.out hbx)
          have hkx := blk_below HKX.out hbx
          have m0 : wc.cell? ⟨wr.heap.size, 0, none⟩ = some (.int .i64 kv.f0) := (blk_cell hkx 0).trans rfl
          have m1 : wc.cell? ⟨wr.heap.size, 1, none⟩ = some (.int .i64 kv.f1) := (blk_cell hkx 1).trans rfl
          have HBX := Aside0.mk hbx
          clear hbx hkx q2' q3'
          have hkey2 := HI.out.keys
          rw [HDR.out, keysOk_cons] at hkey2
          cases hrow : rowB (arrN l) kv vv (keysL ((prsS l).take (2 * j))) with
          | false =>
           have HNO := Aside0.mk (show okS l = false by rw [← hkey2, hrow]; rfl)
           have hb1 := HBB.out.trans (HI.out.bel.mono HBB.out.size)
           have hb2 := hb1.trans (HBW.out.mono hb1.size)
           have HB3 := Aside0.mk (hb2.trans (HBX.out.mono hb2.size))
           clear hkey2 hrow hb1 hb2
           go_wp2_with fail
           exact bodyPost_ret (v := .tuple #[.slice none 0 0, .slice none 0 0, .map none, .bool false]) (by simp [results, Try.results30, go_sem]) rfl (PartsQ.no HNO.out HB3.out)
          | true =>
           rw [hrow, Bool.true_and] at hkey2
           have hnx : idxP kv ((prsS l).take (2 * j)) 0 = none := by
            have h7 : (keysL ((prsS l).take (2 * j))).any (fun a => sameV a kv) = false := by
             cases h8 : (keysL ((prsS l).take (2 * j))).any (fun a => sameV a kv) with
             | false => rfl
             | true => unfold rowB at hrow; rw [h8] at hrow; simp at hrow
            rw [seen_idx kv j ((prsS l).take (2 * j)) 0 (by rw [List.length_take]; omega)] at h7
            cases h9 : idxP kv ((prsS l).take (2 * j)) 0 with
            | none => rfl
            | some i => rw [h9] at h7; cases h7
           have hmp := HI.out.map.put (v := vv) (m := j) (by rw [List.length_take]; omega) HKL.out hnx
           rw [← HTK.out] at hmp
           have hkn : keysOk (arrN l) ((prsS l).drop (2 * (j + 1))) (keysL ((prsS l).take (2 * (j + 1)))) = okS l := by
            rw [HTK.out, keysL_snoc kv vv j _ (by rw [List.length_take]; omega)]
            exact hkey2
           have hb1 := HI.out.bel.trans (HBW.out.mono HI.out.bel.size)
           have hb2 := hb1.trans (HBX.out.mono hb1.size)
           have HB2 := Aside0.mk hb2
           have HMP := Aside0.mk hmp
           have HKN := Aside0.mk hkn
           clear hkey2 hrow hnx hmp hkn hb1 hb2
           have hjm : (j : Nat) < maxLen := by unfold maxLen; omega
           have hwf := plainElem_int (H := Unit) Try.underlying3 (inR_small (n := 2 * (j : Int)) (by omega) (by omega))
           have HWF := Aside0.mk hwf
           clear hwf
           go_wp2_with (at_mapUpdate; (refine wpList_mapUpdate_own _ rfl _ _ _ 54 rfl 24 3 law24 Try.underlying54 (plainElem Try.prog 3) b j D rfl HOX.out hjm _ (.int .i64 (2 * (j : Int))) kl rfl rfl HKL.out _ [] HWF.out ?_; intro w9 hown9 hgrow9))
           have hmp2 : MapL (D.put kl (.lit (.int .i64 (2 * (j : Int))))) ((prsS l).take (2 * (j + 1))) := by
            have h := HMP.out
            rw [show ((2 * j : Nat) : Int) = 2 * (j : Int) by omega] at h
            exact h
           go_roundw
           case rel => exact ⟨rfl, rfl, rfl, rfl, j + 1, by rw [show ((2 * (j + 1) : Nat) : Int) = 2 * (j : Int) + 2 by omega], by omega, ⟨_, Below.grown HB2.out hgrow9 HB2.out.size (fun k hk => by injection hk with hk; exact hk ▸ HBZ.out), HKN.out, hown9, hmp2⟩⟩
           case measure => simp [intOf]; omega
        ·obtain ⟨D, hLI⟩ := HLI.out
         have HI := Aside0.mk hLI
         clear hLI HLI
         have he2 := Aside0.mk (show 2 * j = (prsS l).length by omega)
         have hyes : okS l = true := by
          rw [← HI.out.keys, he2.out, List.drop_of_length_le (Nat.le_refl _)]
          rfl
         have HYES := Aside0.mk hyes
         have hmap := HI.out.map
         rw [he2.out, List.take_of_length_le (Nat.le_refl _)] at hmap
         have HMAP := Aside0.mk hmap
         have hge : ((prsS l).length : Int) ≤ ((2 * j : Nat) : Int) := by omega
         clear hyes hmap
         go_wp2_with fail
         exact bodyPost_ret (v := .tuple #[.slice Aa (arrS l).length ca, .slice Ap (prsS l).length cp, .map (some b), .bool true]) (by simp [results, Try.results30, go_sem]) rfl
          ⟨.inr ⟨HYES.out, Aa, ca, Ap, cp, b, j, D, rfl, HLA.out, HLP.out, Kd.C_below HCA.out HI.out.bel, Kd.C_below HCP.out HI.out.bel, HI.out.own, HMAP.out⟩, HBB.out.trans (HI.out.bel.mono HBB.out.size)⟩
 ·have HH := Aside0.mk (okS_head (by simpa using hh : headB l = false))
  by_cases e1 : (rd_T24 l 1).f0 = 3
  ·have b1 : ((rd_T24 l 1).f0 == 3) = true := by simpa using e1
   by_cases e2 : (rd_T24 l 1).f1 < 0
   ·have b2 : decide ((rd_T24 l 1).f1 < 0) = true := decide_eq_true e2
    clear hh
    go_enter Try.func30, Try.ntmps30
    go_wp2_with fail
    exact bodyPost_ret (v := .tuple #[.slice none 0 0, .slice none 0 0, .map none, .bool false]) (by simp [results, Try.results30, go_sem]) rfl (PartsQ.no HH.out (Below.refl _ _))
   ·have b2 : decide ((rd_T24 l 1).f1 < 0) = false := decide_eq_false e2
    have e3 : (l.length : Int) - 2 < (rd_T24 l 1).f1 := by
     apply Int.not_le.1
     intro h
     apply hh
     unfold headB
     simp only [Bool.and_eq_true, decide_eq_true_eq, beq_iff_eq]
     omega
    have b3 : decide ((l.length : Int) - 2 < (rd_T24 l 1).f1) = true := decide_eq_true e3
    clear hh
    go_enter Try.func30, Try.ntmps30
    go_wp2_with fail
    exact bodyPost_ret (v := .tuple #[.slice none 0 0, .slice none 0 0, .map none, .bool false]) (by simp [results, Try.results30, go_sem]) rfl (PartsQ.no HH.out (Below.refl _ _))
  ·have b1 : ((rd_T24 l 1).f0 == 3) = false := by simpa using e1
   clear hh
   go_enter Try.func30, Try.ntmps30
   go_wp2_with fail
   exact bodyPost_ret (v := .tuple #[.slice none 0 0, .slice none 0 0, .map none, .bool false]) (by simp [results, Try.results30, go_sem]) rfl (PartsQ.no HH.out (Below.refl _ _))
theorem placed0 (k : S24) : placedB k 0 = false := by
 unfold placedB
 cases h : (k.f0 == 3) with
 | false => rfl
 | true =>
  rw [Bool.true_and]
  by_cases h1 : 1 ≤ k.f1
  ·rw [decide_eq_true h1, decide_eq_false (by omega)]; rfl
  ·rw [decide_eq_false h1]; rfl
theorem lookup_nil (w : World) {ops : Array Oper} {rest : List Oper} {o : Oper} {a : Act} {Q : Exit → Act → World → Prop} (hg : o.guard = none) (m x : Operand) (hop : o.op = Op.lookup 54 m x true) (hm : a.eval m = .map none) (key : Value) (kl : Lit) (hx : a.eval x = key) (hkey : keyOf Try.prog 24 key = some kl)
  (hK : wpList Try.prog ops Q rest (a.put o.dst (.tuple #[.int .i64 0, .bool false])) w) : wpList Try.prog ops Q (o :: rest) a w := by
 refine wpList_plain hg fun K' hK' => ?_
 have hrun := Maps.look_nil (w := w) true law24 Try.underlying54 (zero3 w) hkey
 unfold Oper.wp
 simp [execOp, hop, hm, hx, hrun, Result.andThen]
 exact hK' _ _ hK
theorem getS_no {l : List S24} {k : S24} (h : okS l = false) : getS l k = ⟨1, 0⟩ := by unfold getS; rw [h]; rfl
theorem idxP_lt (q : S24) : ∀ (L : List S24) (i0 i : Nat), idxP q L i0 = some i → i0 ≤ i ∧ i + 1 < i0 + L.length
 | [], i0, i, h => by cases h
 | [a], i0, i, h => by cases h
 | a :: b :: L, i0, i, h => by
  unfold idxP at h
  by_cases e : sameV a q = true
  ·rw [if_pos e] at h
   injection h with h
   subst h
   simp
  ·rw [if_neg e] at h
   have := idxP_lt q L (i0 + 2) i h
   simp
   omega
theorem placed_bd {k : S24} {n : Nat} (h : placedB k n = true) : 1 ≤ k.f1 ∧ k.f1 ≤ (n : Int) := by
 unfold placedB at h
 simp only [Bool.and_eq_true, decide_eq_true_eq] at h
 exact h.2
theorem rd_arr {l : List S24} (h : headB l = true) {x : Int} (h0 : 0 ≤ x) (h1 : x < (arrS l).length) : rd_T24 (arrS l) x = rd_T24 l (2 + x) := by
 have h2 := len_arr h
 unfold rd_T24
 rw [show (2 + x).toNat = 2 + x.toNat by omega]
 unfold arrS
 rw [List.getD_eq_getElem?_getD, List.getD_eq_getElem?_getD, List.getElem?_take_of_lt (by omega), List.getElem?_drop]
theorem headB_of {l : List S24} (h : okS l = true) : headB l = true := by
 cases h2 : headB l with
 | true => rfl
 | false => rw [okS_head h2] at h; cases h
theorem getS_arr {l : List S24} {k : S24} (h : okS l = true) (hp : placedB k (arrN l) = true) : getS l k = rd_T24 l (1 + k.f1) := by unfold getS; rw [h, hp]; rfl
theorem getS_none {l : List S24} {k : S24} (h : okS l = true) (hp : placedB k (arrN l) = false) (hi : idxP k (prsS l) 0 = none) : getS l k = ⟨1, 0⟩ := by unfold getS; rw [h, hp, hi]; rfl
theorem getS_some {l : List S24} {k : S24} {i : Nat} (h : okS l = true) (hp : placedB k (arrN l) = false) (hi : idxP k (prsS l) 0 = some i) : getS l k = rd_T24 (prsS l) (i + 1) := by unfold getS; rw [h, hp, hi]; rfl
set_option maxHeartbeats 1000000 in
theorem get_any (A : Option Addr) (c : Nat) (l : List S24) (k : S24) (w : World) (hr : Kd.C k24 w A l.length l) (hc : l.length ≤ c) (hl : l.length ≤ 1000000) (hin : ∀ v ∈ l, inV v = true) (hk : inV k = true) :
  Calls Try.prog 22 #[.slice A l.length c, .agg #[.int .i64 k.f0, .int .i64 k.f1]] w fun e w' => e = .returned (.agg #[.int .i64 (getS l k).f0, .int .i64 (getS l k).f1]) ∧ Below w.heap.size w w' := by
 obtain ⟨kl, hkl⟩ := klV_eq hk
 have HKL := Aside0.mk hkl
 have HPP := Aside0.mk (fun w' (hb : Below w.heap.size w w') => parts_any A c l w' (Kd.C_below hr hb) hc hl hin)
 clear hr hc hin hk hkl
 go_enter Try.func22, Try.ntmps22
 go_wp2_with (with_reducible refine (HPP.out _ (below_alloc (below_alloc (Below.refl _ _) _) _)).mono ?_)
 rintro e w1 ⟨h, hb⟩
 have hkk := blk_below (blk_alloc (blk_new w (Obj.cells #[.int .i64 k.f0, .int .i64 k.f1] 24)) (Obj.cells #[.int .i64 0, .int .i64 0] 24)) hb
 have hkr := blk_below (blk_new (w.alloc (Obj.cells #[.int .i64 k.f0, .int .i64 k.f1] 24)) (Obj.cells #[.int .i64 0, .int .i64 0] 24)) hb
 have HB := Aside0.mk (below_step (below_alloc (below_alloc (Below.refl _ _) _) _) hb)
 have HKK := Aside0.mk hkk
 have HKR := Aside0.mk hkr
 clear hb hkk hkr
 have c0 : w1.cell? ⟨w.heap.size, 0, none⟩ = some (.int .i64 k.f0) := (blk_cell HKK.out 0).trans rfl
 have c1 : w1.cell? ⟨w.heap.size, 1, none⟩ = some (.int .i64 k.f1) := (blk_cell HKK.out 1).trans rfl
 rcases h with ⟨hk, rfl⟩ | ⟨hk, Aa, ca, Ap, cp, b, N, D, rfl, hla, hlp, hCa, hCp, hown, hmap⟩
 ·have HK := Aside0.mk hk
  clear hk
  go_wp2_with fail
  refine (placed_any k 0 _).mono ?_
  rw [placed0]
  rintro e w2 ⟨rfl, hb2⟩
  have k2 := blk_below HKK.out hb2
  have r2 := blk_below HKR.out hb2
  have c0 : w2.cell? ⟨w.heap.size, 0, none⟩ = some (.int .i64 k.f0) := (blk_cell k2 0).trans rfl
  have c1 : w2.cell? ⟨w.heap.size, 1, none⟩ = some (.int .i64 k.f1) := (blk_cell k2 1).trans rfl
  have z0 : w2.cell? ⟨w.heap.size + 1, 0, none⟩ = some (.int .i64 0) := (blk_cell (by simpa using r2) 0).trans rfl
  have z1 : w2.cell? ⟨w.heap.size + 1, 1, none⟩ = some (.int .i64 0) := (blk_cell (by simpa using r2) 1).trans rfl
  have f0 : w2.frozen? ⟨w.heap.size + 1, 0, none⟩ = false := blk_frozen (by simpa using r2) 0
  have f1 : w2.frozen? ⟨w.heap.size + 1, 1, none⟩ = false := blk_frozen (by simpa using r2) 1
  have HB2 := Aside0.mk (HB.out.trans (hb2.mono HB.out.size))
  have HR2 := Aside0.mk (show w2.heap[w.heap.size + 1]? = some (.cells #[.int .i64 0, .int .i64 0] 24 (0, 0)) by simpa using r2)
  clear hb2 k2 r2
  go_wp2_with (at_lookup; (refine lookup_nil _ rfl _ _ rfl rfl _ kl rfl HKL.out ?_))
  exact bodyPost_ret (results_cell_row rfl _ _ (w.heap.size + 1) 24 #[.int .i64 1, .int .i64 0] (0, 0) _ rfl (blk_put (blk_put HR2.out 0 _ rfl) 1 _ rfl) Try.underlying24 rfl (by kernel_rfl)) rfl ⟨by rw [getS_no HK.out], (HB2.out.setCell (by show w.heap.size ≤ w.heap.size + 1; omega) _).setCell (by show w.heap.size ≤ w.heap.size + 1; omega) _⟩
 ·have HK := Aside0.mk hk
  have HCA := Aside0.mk hCa
  have HCP := Aside0.mk hCp
  have HOW := Aside0.mk hown
  have HMP := Aside0.mk hmap
  have hln := len_arr (headB_of hk)
  have HLN := Aside0.mk hln
  have hsa : (arrS l).length ≤ 1000000 := by unfold arrS; rw [List.length_take, List.length_drop]; omega
  have hsp : (prsS l).length ≤ 1000000 := by unfold prsS; rw [List.length_drop]; omega
  clear hk hCa hCp hown hmap hla hlp hln
  go_wp2_with fail
  refine (placed_any k (arrS l).length _).mono ?_
  rintro e w2 ⟨rfl, hb2⟩
  have k2 := blk_below HKK.out hb2
  have r2 := blk_below HKR.out hb2
  have c0 : w2.cell? ⟨w.heap.size, 0, none⟩ = some (.int .i64 k.f0) := (blk_cell k2 0).trans rfl
  have c1 : w2.cell? ⟨w.heap.size, 1, none⟩ = some (.int .i64 k.f1) := (blk_cell k2 1).trans rfl
  have z0 : w2.cell? ⟨w.heap.size + 1, 0, none⟩ = some (.int .i64 0) := (blk_cell (by simpa using r2) 0).trans rfl
  have z1 : w2.cell? ⟨w.heap.size + 1, 1, none⟩ = some (.int .i64 0) := (blk_cell (by simpa using r2) 1).trans rfl
  have f0 : w2.frozen? ⟨w.heap.size + 1, 0, none⟩ = false := blk_frozen (by simpa using r2) 0
  have f1 : w2.frozen? ⟨w.heap.size + 1, 1, none⟩ = false := blk_frozen (by simpa using r2) 1
  have HB2 := Aside0.mk (HB.out.trans (hb2.mono HB.out.size))
  have HR2 := Aside0.mk (show w2.heap[w.heap.size + 1]? = some (.cells #[.int .i64 0, .int .i64 0] 24 (0, 0)) by simpa using r2)
  have HCA2 := Aside0.mk (Kd.C_below HCA.out hb2)
  have HCP2 := Aside0.mk (Kd.C_below HCP.out hb2)
  have HOW2 := Aside0.mk (Map_below HOW.out hb2)
  clear hb2 k2 r2 HCA HCP HOW
  cases hpl : placedB k (arrS l).length with
  | true =>
   have hpd := placed_bd hpl
   obtain ⟨aa, rfl, q0, q1⟩ := at_T24 HCA2.out (k.f1 - 1) (by omega) (by omega)
   have hrd : rd_T24 (arrS l) (k.f1 - 1) = rd_T24 l (1 + k.f1) := by rw [rd_arr (headB_of HK.out) (by omega) (by omega)]; congr 1; omega
   have hget := getS_arr HK.out (by rw [← HLN.out]; exact hpl)
   rw [hrd, ← hget, show (k.f1 - 1).toNat = k.f1.toNat - 1 by omega] at q0 q1
   obtain ⟨g1, g2⟩ := hpd
   clear hpl hrd hget
   go_wp2_with fail
   exact bodyPost_ret (results_cell_row rfl _ _ (w.heap.size + 1) 24 #[.int .i64 (getS l k).f0, .int .i64 (getS l k).f1] (0, 0) _ rfl (blk_put (blk_put HR2.out 0 _ rfl) 1 _ rfl) Try.underlying24 rfl (by kernel_rfl)) rfl ⟨rfl, (HB2.out.setCell (by show w.heap.size ≤ w.heap.size + 1; omega) _).setCell (by show w.heap.size ≤ w.heap.size + 1; omega) _⟩
  | false =>
   have hpl2 := Aside0.mk (show placedB k (arrN l) = false by rw [← HLN.out]; exact hpl)
   clear hpl
   have hhas := HMP.out.has k kl HKL.out
   cases hix : idxP k (prsS l) 0 with
   | none =>
    rw [hix] at hhas
    have HHS := Aside0.mk hhas
    have HGT := Aside0.mk (getS_none HK.out hpl2.out hix)
    clear hhas hix
    go_wp2_with (at_lookup; (refine wpList_lookup_own_ok_int _ rfl _ _ 54 rfl 24 3 .i64 law24 Try.underlying54 Try.underlying3 (zero3 _) b N D rfl HOW2.out _ kl rfl HKL.out ?_; intro c9 hat9 hwc9; rw [HHS.out]; clear hat9 hwc9))
    exact bodyPost_ret (results_cell_row rfl _ _ (w.heap.size + 1) 24 #[.int .i64 1, .int .i64 0] (0, 0) _ rfl (blk_put (blk_put HR2.out 0 _ rfl) 1 _ rfl) Try.underlying24 rfl (by kernel_rfl)) rfl ⟨by rw [HGT.out], (HB2.out.setCell (by show w.heap.size ≤ w.heap.size + 1; omega) _).setCell (by show w.heap.size ≤ w.heap.size + 1; omega) _⟩
   | some i =>
    rw [hix] at hhas
    have HHS := Aside0.mk hhas
    have HGT := Aside0.mk (getS_some HK.out hpl2.out hix)
    have hbd := idxP_lt k _ _ _ hix
    have HAT := Aside0.mk (HMP.out.at_ k kl i HKL.out hix)
    obtain ⟨aa, rfl, q0, q1⟩ := at_T24 HCP2.out ((i : Int) + 1) (by omega) (by omega)
    rw [← HGT.out, show ((i : Int) + 1).toNat = i + 1 by omega] at q0 q1
    have hb9 : i + 1 < (prsS l).length := by omega
    clear hhas hix hbd
    go_wp2_with (at_lookup; (refine wpList_lookup_own_ok_int _ rfl _ _ 54 rfl 24 3 .i64 law24 Try.underlying54 Try.underlying3 (zero3 _) b N D rfl HOW2.out _ kl rfl HKL.out ?_; intro c9 hat9 hwc9; rw [HHS.out]; (obtain rfl : c9 = (i : Int) := by have := (HAT.out _).symm.trans hat9; injection this with this; injection this with _ this; exact this.symm); clear hat9 hwc9))
    exact bodyPost_ret (results_cell_row rfl _ _ (w.heap.size + 1) 24 #[.int .i64 (getS l k).f0, .int .i64 (getS l k).f1] (0, 0) _ rfl (blk_put (blk_put HR2.out 0 _ rfl) 1 _ rfl) Try.underlying24 rfl (by kernel_rfl)) rfl ⟨rfl, (HB2.out.setCell (by show w.heap.size ≤ w.heap.size + 1; omega) _).setCell (by show w.heap.size ≤ w.heap.size + 1; omega) _⟩
end Go.Proofs.YtadhkfklkbdabaaR.G
end
