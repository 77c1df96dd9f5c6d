import Derived.Test.YtadhkfklkbdabaaRPPuGx0
import Derived.Test.YtadhkfklkbdabaaRPPuGxE24
import Derived.Test.YtadhkfklkbdabaaRPPuGxF37
import Derived.Test.YtadhkfklkbdabaaRPPuGxF38
import Derived.Test.YtadhkfklkbdabaaRPPuGxF41
set_option linter.unusedVariables false
set_option linter.unusedSimpArgs false
section
namespace Go.Proofs.YtadhkfklkbdabaaR.G
open Go.RowKit Go.Proofs.YtadhkfklkbdabaaRW.PrintWords Go.Proofs.YtadhkfklkbdabaaRW.PrintLast Go.Proofs.YtadhkfklkbdabaaRW.PrintMore
attribute [local go_sem] max2_int min2_int max_two min_two max_three min_three max_four min_four
set_option linter.unusedVariables false
set_option linter.unusedSimpArgs false
attribute [local go_sem high] eqA24
mutual
def tallowref09_Check.j0 : Nat → List (S24) → Bool → Option (Bool)
 | 0, _, _ => none
 | k + 1, x0, x33 => if x33 = true then (some false) else (tallowref09_Check.l0 k x0 0)
def tallowref09_Check.l0 : Nat → List (S24) → Int → Option (Bool)
 | 0, _, _ => none
 | k + 1, x0, x3 => if x3 < (x0.length : Int) then (if 0 ≤ x3 then ((tallowref02_May.f k ((rd_T24 x0 x3).f0) ((rd_T24 x0 x3).f1)).bind fun t138 => (if t138 = true then (if ((rd_T24 x0 x3).f0) = 0 then (some false) else (tallowref09_Check.l0 k x0 (wrap64 (x3 + 1)))) else (some false))) else (none)) else (if 0 < (x0.length : Int) then (if ((rd_T24 x0 0).f0) = 1 then (tallowref09_Check.j2 k x0 false) else (tallowref09_Check.j2 k x0 (((rd_T24 x0 0).f0) != 6))) else (none))
def tallowref09_Check.j2 : Nat → List (S24) → Bool → Option (Bool)
 | 0, _, _ => none
 | k + 1, x0, x65 => if x65 = true then (some false) else (if 1 < (x0.length : Int) then (if (Int.tmod (wrap64 ((wrap64 ((x0.length : Int) - 2)) - ((rd_T24 x0 1).f1))) 2) = 0 then (if ((rd_T24 x0 1).f1) > 0 then (if 0 ≤ (wrap64 (1 + ((rd_T24 x0 1).f1))) then (if (wrap64 (1 + ((rd_T24 x0 1).f1))) < (x0.length : Int) then (tallowref09_Check.j3 k x0 ((rd_T24 x0 1).f1) (((rd_T24 x0 (wrap64 (1 + ((rd_T24 x0 1).f1)))).f0) == 1)) else (none)) else (none)) else (tallowref09_Check.j3 k x0 ((rd_T24 x0 1).f1) false)) else (tallowref09_Check.j3 k x0 ((rd_T24 x0 1).f1) true)) else (none))
def tallowref09_Check.j3 : Nat → List (S24) → Int → Bool → Option (Bool)
 | 0, _, _, _ => none
 | k + 1, x0, x4, x89 => if x89 = true then (some false) else (tallowref09_Check.l1 k x0 x4 (wrap64 (2 + x4)))
def tallowref09_Check.l1 : Nat → List (S24) → Int → Int → Option (Bool)
 | 0, _, _, _ => none
 | k + 1, x0, x4, x5 => if x5 < (x0.length : Int) then (if 0 ≤ x5 then ((tallowref02_Key.f k ((rd_T24 x0 x5).f0) ((rd_T24 x0 x5).f1)).bind fun t145 => (if t145 = true then (if 0 ≤ (wrap64 (x5 + 1)) then (if (wrap64 (x5 + 1)) < (x0.length : Int) then (if ((rd_T24 x0 (wrap64 (x5 + 1))).f0) = 1 then (tallowref09_Check.j5 k x0 x4 x5 true) else ((tallowref09_within.f ((rd_T24 x0 x5).f0) ((rd_T24 x0 x5).f1) 1 (wrap64 (x4 + 1))).bind fun t148 => (tallowref09_Check.j5 k x0 x4 x5 t148))) else (none)) else (none)) else (tallowref09_Check.j5 k x0 x4 x5 true))) else (none)) else (some true)
def tallowref09_Check.j5 : Nat → List (S24) → Int → Int → Bool → Option (Bool)
 | 0, _, _, _, _ => none
 | k + 1, x0, x4, x5, x121 => if x121 = true then (some false) else (tallowref09_Check.l2 k x0 x4 x5 (wrap64 (x5 + 2)))
def tallowref09_Check.l2 : Nat → List (S24) → Int → Int → Int → Option (Bool)
 | 0, _, _, _, _ => none
 | k + 1, x0, x4, x5, x6 => if x6 < (x0.length : Int) then (if 0 ≤ x6 then (if 0 ≤ x5 then (if x5 < (x0.length : Int) then (if (((rd_T24 x0 x6).f0) == ((rd_T24 x0 x5).f0) && (((rd_T24 x0 x6).f1) == ((rd_T24 x0 x5).f1))) = true then (some false) else (tallowref09_Check.l2 k x0 x4 x5 (wrap64 (x6 + 2)))) else (none)) else (none)) else (none)) else (tallowref09_Check.l1 k x0 x4 (wrap64 (x5 + 2)))
end
def tallowref09_Check.f (k : Nat) (l0 : List (S24)) : Option (Bool) := if (l0.length : Int) < 2 then (tallowref09_Check.j0 k l0 true) else (if 1 < (l0.length : Int) then (if ((rd_T24 l0 1).f0) = 3 then (if ((rd_T24 l0 1).f1) < 0 then (tallowref09_Check.j0 k l0 true) else (tallowref09_Check.j0 k l0 (decide (((rd_T24 l0 1).f1) > (wrap64 ((l0.length : Int) - 2)))))) else (tallowref09_Check.j0 k l0 true)) else (none))
set_option maxHeartbeats 8000000 in
set_option maxRecDepth 100000 in
theorem tallowref09_Check.calls (k : Nat) (A0 : Option Addr) (c0 : Nat) (l0 : List (S24)) (r : Bool) (w : World) (hr0 : Kd.C k24 w A0 l0.length l0) (hc0 : l0.length ≤ c0) (h : tallowref09_Check.f k l0 = some r) :
  Calls Try.prog 20 #[.slice A0 l0.length c0] w fun e w' => e = .returned (.bool r) ∧ Below w.heap.size w w' := by
 have hu24 := Try.underlying24
 have HR0 := Aside0.mk hr0
 have HC0 := Aside0.mk hc0
 clear hr0 hc0
 have HB := Aside0.mk (Below.refl w.heap.size w)
 have H : (if (l0.length : Int) < 2 then (tallowref09_Check.j0 k l0 true) else (if 1 < (l0.length : Int) then (if ((rd_T24 l0 1).f0) = 3 then (if ((rd_T24 l0 1).f1) < 0 then (tallowref09_Check.j0 k l0 true) else (tallowref09_Check.j0 k l0 (decide (((rd_T24 l0 1).f1) > (wrap64 ((l0.length : Int) - 2)))))) else (tallowref09_Check.j0 k l0 true)) else (none))) = some r := h
 clear h
 have HC2 := Aside0.mk H
 clear H
 go_enter Try.func20, Try.ntmps20
 go_upto_region 1 with (fail)
 repeat (go_quiet (fail); go_upto_region 1 with (fail))
 go_cut [33] (fun v33 wc => ∃ (kq : Nat) (x33_1 : Bool), v33 = .bool x33_1 ∧ Aside0 (tallowref09_Check.j0 kq l0 x33_1 = some r) ∧ Aside0 (kq ≤ k) ∧ Aside0 (Below w.heap.size w wc))
 case first =>
  have H := HC2.out
  clear HC2
  by_cases c3 : (l0.length : Int) < 2
  ·rw [if_pos c3] at H
   have c3b0 : decide ((l0.length : Int) < 2) = true := decide_eq_true c3
   have c3b1 : decide (l0.length < 2) = true := decide_eq_true (by omega)
   clear c3
   (first | rw [c3b0] | (simp only [i64_w, i32_w]; rw [c3b0]) | skip)
   have H' := Aside0.mk H
   clear H
   go_wp2
   repeat (go_quiet (fail); try go_wp2)
   go_meet
   case rel => exact ⟨_, (true), (by first | rfl | (simp; done) | (simp [*]; done)), H', ⟨by first | omega | exact Nat.le_refl _⟩, ⟨by repeat (first | (with_reducible first | exact HB.out | apply below_alloc | apply pw_below_drewN | apply below_drew1) | exact HB.out)⟩⟩
  ·rw [if_neg c3] at H
   have c3b0 : decide ((l0.length : Int) < 2) = false := decide_eq_false c3
   have c3b1 : decide (l0.length < 2) = false := decide_eq_false (by omega)
   clear c3
   (first | rw [c3b0] | (simp only [i64_w, i32_w]; rw [c3b0]) | skip)
   by_cases c4 : 1 < (l0.length : Int)
   ·rw [if_pos c4] at H
    have c4b0 : decide (1 < (l0.length : Int)) = true := decide_eq_true c4
    have c4b1 : decide (1 < l0.length) = true := decide_eq_true (by omega)
    clear c4
    by_cases c5 : ((rd_T24 l0 1).f0) = 3
    ·rw [if_pos c5] at H
     have c5b0 : (((rd_T24 l0 1).f0) == 3) = true := beq_iff_eq.mpr c5
     have c5b1 : (((rd_T24 l0 1).f0) != 3) = false := bne_eq_false_iff_eq.mpr c5
     clear c5
     by_cases c6 : ((rd_T24 l0 1).f1) < 0
     ·rw [if_pos c6] at H
      have c6b0 : decide (((rd_T24 l0 1).f1) < 0) = true := decide_eq_true c6
      clear c6
      have H' := Aside0.mk H
      clear H
      have p134 : 0 ≤ (1 : Int) := (by omega)
      have q134 : 1 < (l0.length : Int) := of_decide_eq_true (by first | (with_reducible assumption) | assumption)
      obtain ⟨ad134, e134, hx134_0, hx134_1⟩ := at_T24 HR0.out 1 p134 q134
      cases e134
      (try simp only [show (1 : Int).toNat = 1 from rfl, Nat.reduceMul, Nat.reduceEqDiff, Go.Addr.add, ↓reduceIte] at hx134_0)
      (try simp only [show (1 : Int).toNat = 1 from rfl, Nat.reduceMul, Nat.reduceEqDiff, Go.Addr.add, ↓reduceIte] at hx134_1)
      have qi134 : (1 < l0.length) = True := eq_true (by omega)
      (try rw [show ((1 : Int)).toNat = 1 from rfl] at hx134_0)
      (try rw [show 1 * 2 = 2 from rfl] at hx134_0)
      (try rw [show ((1 : Int)).toNat = 1 from rfl] at hx134_1)
      (try rw [show 1 * 2 = 2 from rfl] at hx134_1)
      replace hx134_0 := (HB.out.cell (World.block_lt_of_cell? w _ hx134_0)).trans hx134_0
      replace hx134_1 := (HB.out.cell (World.block_lt_of_cell? w _ hx134_1)).trans hx134_1
      replace p134 := eq_true p134
      replace q134 := eq_true q134
      have p135 : 0 ≤ (1 : Int) := (by omega)
      have q135 : 1 < (l0.length : Int) := of_decide_eq_true (by first | (with_reducible assumption) | assumption)
      obtain ⟨ad135, e135, hx135_0, hx135_1⟩ := at_T24 HR0.out 1 p135 q135
      obtain rfl : ad134 = ad135 := (by injection e135)
      (try simp only [show (1 : Int).toNat = 1 from rfl, Nat.reduceMul, Nat.reduceEqDiff, Go.Addr.add, ↓reduceIte] at hx135_0)
      (try simp only [show (1 : Int).toNat = 1 from rfl, Nat.reduceMul, Nat.reduceEqDiff, Go.Addr.add, ↓reduceIte] at hx135_1)
      have qi135 : (1 < l0.length) = True := eq_true (by omega)
      (try rw [show ((1 : Int)).toNat = 1 from rfl] at hx135_0)
      (try rw [show 1 * 2 = 2 from rfl] at hx135_0)
      (try rw [show ((1 : Int)).toNat = 1 from rfl] at hx135_1)
      (try rw [show 1 * 2 = 2 from rfl] at hx135_1)
      replace hx135_0 := (HB.out.cell (World.block_lt_of_cell? w _ hx135_0)).trans hx135_0
      replace hx135_1 := (HB.out.cell (World.block_lt_of_cell? w _ hx135_1)).trans hx135_1
      replace p135 := eq_true p135
      replace q135 := eq_true q135
      go_wp2
      repeat (go_quiet (fail); try go_wp2)
      go_meet
      case rel => exact ⟨_, (true), (by first | rfl | (simp; done) | (simp [*]; done)), H', ⟨by first | omega | exact Nat.le_refl _⟩, ⟨by repeat (first | (with_reducible first | exact HB.out | apply below_alloc | apply pw_below_drewN | apply below_drew1) | exact HB.out)⟩⟩
     ·rw [if_neg c6] at H
      have c6b0 : decide (((rd_T24 l0 1).f1) < 0) = false := decide_eq_false c6
      clear c6
      have H' := Aside0.mk H
      clear H
      have p134 : 0 ≤ (1 : Int) := (by omega)
      have q134 : 1 < (l0.length : Int) := of_decide_eq_true (by first | (with_reducible assumption) | assumption)
      obtain ⟨ad134, e134, hx134_0, hx134_1⟩ := at_T24 HR0.out 1 p134 q134
      cases e134
      (try simp only [show (1 : Int).toNat = 1 from rfl, Nat.reduceMul, Nat.reduceEqDiff, Go.Addr.add, ↓reduceIte] at hx134_0)
      (try simp only [show (1 : Int).toNat = 1 from rfl, Nat.reduceMul, Nat.reduceEqDiff, Go.Addr.add, ↓reduceIte] at hx134_1)
      have qi134 : (1 < l0.length) = True := eq_true (by omega)
      (try rw [show ((1 : Int)).toNat = 1 from rfl] at hx134_0)
      (try rw [show 1 * 2 = 2 from rfl] at hx134_0)
      (try rw [show ((1 : Int)).toNat = 1 from rfl] at hx134_1)
      (try rw [show 1 * 2 = 2 from rfl] at hx134_1)
      replace hx134_0 := (HB.out.cell (World.block_lt_of_cell? w _ hx134_0)).trans hx134_0
      replace hx134_1 := (HB.out.cell (World.block_lt_of_cell? w _ hx134_1)).trans hx134_1
      replace p134 := eq_true p134
      replace q134 := eq_true q134
      have p135 : 0 ≤ (1 : Int) := (by omega)
      have q135 : 1 < (l0.length : Int) := of_decide_eq_true (by first | (with_reducible assumption) | assumption)
      obtain ⟨ad135, e135, hx135_0, hx135_1⟩ := at_T24 HR0.out 1 p135 q135
      obtain rfl : ad134 = ad135 := (by injection e135)
      (try simp only [show (1 : Int).toNat = 1 from rfl, Nat.reduceMul, Nat.reduceEqDiff, Go.Addr.add, ↓reduceIte] at hx135_0)
      (try simp only [show (1 : Int).toNat = 1 from rfl, Nat.reduceMul, Nat.reduceEqDiff, Go.Addr.add, ↓reduceIte] at hx135_1)
      have qi135 : (1 < l0.length) = True := eq_true (by omega)
      (try rw [show ((1 : Int)).toNat = 1 from rfl] at hx135_0)
      (try rw [show 1 * 2 = 2 from rfl] at hx135_0)
      (try rw [show ((1 : Int)).toNat = 1 from rfl] at hx135_1)
      (try rw [show 1 * 2 = 2 from rfl] at hx135_1)
      replace hx135_0 := (HB.out.cell (World.block_lt_of_cell? w _ hx135_0)).trans hx135_0
      replace hx135_1 := (HB.out.cell (World.block_lt_of_cell? w _ hx135_1)).trans hx135_1
      replace p135 := eq_true p135
      replace q135 := eq_true q135
      have p136 : 0 ≤ (1 : Int) := (by omega)
      have q136 : 1 < (l0.length : Int) := of_decide_eq_true (by first | (with_reducible assumption) | assumption)
      obtain ⟨ad136, e136, hx136_0, hx136_1⟩ := at_T24 HR0.out 1 p136 q136
      obtain rfl : ad134 = ad136 := (by injection e136)
      (try simp only [show (1 : Int).toNat = 1 from rfl, Nat.reduceMul, Nat.reduceEqDiff, Go.Addr.add, ↓reduceIte] at hx136_0)
      (try simp only [show (1 : Int).toNat = 1 from rfl, Nat.reduceMul, Nat.reduceEqDiff, Go.Addr.add, ↓reduceIte] at hx136_1)
      have qi136 : (1 < l0.length) = True := eq_true (by omega)
      (try rw [show ((1 : Int)).toNat = 1 from rfl] at hx136_0)
      (try rw [show 1 * 2 = 2 from rfl] at hx136_0)
      (try rw [show ((1 : Int)).toNat = 1 from rfl] at hx136_1)
      (try rw [show 1 * 2 = 2 from rfl] at hx136_1)
      replace hx136_0 := (HB.out.cell (World.block_lt_of_cell? w _ hx136_0)).trans hx136_0
      replace hx136_1 := (HB.out.cell (World.block_lt_of_cell? w _ hx136_1)).trans hx136_1
      replace p136 := eq_true p136
      replace q136 := eq_true q136
      go_wp2
      repeat (go_quiet (fail); try go_wp2)
      go_meet
      case rel => exact ⟨_, (decide (((rd_T24 l0 1).f1) > (wrap64 ((l0.length : Int) - 2)))), (by first | rfl | (simp; done) | (simp [*]; done)), H', ⟨by first | omega | exact Nat.le_refl _⟩, ⟨by repeat (first | (with_reducible first | exact HB.out | apply below_alloc | apply pw_below_drewN | apply below_drew1) | exact HB.out)⟩⟩
    ·rw [if_neg c5] at H
     have c5b0 : (((rd_T24 l0 1).f0) == 3) = false := beq_eq_false_iff_ne.mpr c5
     have c5b1 : (((rd_T24 l0 1).f0) != 3) = true := bne_iff_ne.mpr c5
     have H' := Aside0.mk H
     clear H
     have p134 : 0 ≤ (1 : Int) := (by omega)
     have q134 : 1 < (l0.length : Int) := of_decide_eq_true (by first | (with_reducible assumption) | assumption)
     obtain ⟨ad134, e134, hx134_0, hx134_1⟩ := at_T24 HR0.out 1 p134 q134
     cases e134
     (try simp only [show (1 : Int).toNat = 1 from rfl, Nat.reduceMul, Nat.reduceEqDiff, Go.Addr.add, ↓reduceIte] at hx134_0)
     (try simp only [show (1 : Int).toNat = 1 from rfl, Nat.reduceMul, Nat.reduceEqDiff, Go.Addr.add, ↓reduceIte] at hx134_1)
     have qi134 : (1 < l0.length) = True := eq_true (by omega)
     (try rw [show ((1 : Int)).toNat = 1 from rfl] at hx134_0)
     (try rw [show 1 * 2 = 2 from rfl] at hx134_0)
     (try rw [show ((1 : Int)).toNat = 1 from rfl] at hx134_1)
     (try rw [show 1 * 2 = 2 from rfl] at hx134_1)
     replace hx134_0 := (HB.out.cell (World.block_lt_of_cell? w _ hx134_0)).trans hx134_0
     replace hx134_1 := (HB.out.cell (World.block_lt_of_cell? w _ hx134_1)).trans hx134_1
     replace p134 := eq_true p134
     replace q134 := eq_true q134
     go_wp2
     repeat (go_quiet (fail); try go_wp2)
     go_meet
     case rel => exact ⟨_, (true), (by first | rfl | (simp; done) | (simp [*]; done)), H', ⟨by first | omega | exact Nat.le_refl _⟩, ⟨by repeat (first | (with_reducible first | exact HB.out | apply below_alloc | apply pw_below_drewN | apply below_drew1) | exact HB.out)⟩⟩
   ·rw [if_neg c4] at H
    exact absurd H (by simp)
 case rest =>
  clear HC2
  try clear p1
  try clear q1
  try clear hx1
  try clear qi1
  try clear c2
  try clear p2
  try clear c3
  try clear c3b0
  try clear c3b1
  try clear c4
  try clear c4b0
  try clear c4b1
  try clear c5
  try clear c5b0
  try clear c5b1
  try clear c6
  try clear c6b0
  try clear p6
  try clear hx134_0
  try clear hx134_1
  try clear hx135_0
  try clear hx135_1
  try clear hx136_0
  try clear hx136_1
  try clear p134
  try clear p135
  try clear p136
  try clear q134
  try clear q135
  try clear q136
  obtain ⟨kq, x33_1, rfl, HA, HJ1, HB⟩ := hcut
  cases kq with
  | zero => exact absurd HA.out (by simp [tallowref09_Check.j0])
  | succ kj1 =>
   have H := HA.out
   clear HA
   simp only [tallowref09_Check.j0] at H
   by_cases c7 : x33_1 = true
   ·subst c7
    have H1 : (some false) = some r := by rw [if_pos rfl] at H; exact H
    clear H
    have H := H1
    clear H1
    obtain rfl := Option.some.inj H
    go_wp2
    repeat (go_quiet (fail); try go_wp2)
    go_ret
    exact ⟨by first | rfl | (simp [errW_none, errW_some] <;> rfl) | (simp [*, errW_none, errW_some] <;> rfl), by repeat (first | (with_reducible first | exact HB.out | apply below_alloc | apply pw_below_drewN | apply below_drew1) | exact HB.out)⟩
   ·replace c7 := Bool.eq_false_iff.mpr c7
    subst c7
    have H1 : (tallowref09_Check.l0 kj1 l0 0) = some r := by rw [if_neg (show ¬ (false = true) by decide)] at H; exact H
    clear H
    have H := H1
    clear H1
    have H' := Aside0.mk H
    clear H
    go_wp2
    repeat (go_quiet (fail); try go_wp2)
    go_loopg [3] kj1 (fun kq v3 w' => ∃ (x3_2 : Int), v3 = .int .i64 x3_2 ∧ Aside0 (tallowref09_Check.l0 kq l0 x3_2 = some r) ∧ Aside0 (kq ≤ kj1) ∧ Aside0 (Below w.heap.size w w'))
    case atStart => exact ⟨(0), (by first | rfl | (simp; done) | (simp [*]; done)), H', ⟨Nat.le_refl _⟩, ⟨by repeat (first | (with_reducible first | exact HB.out | apply below_alloc | apply pw_below_drewN | apply below_drew1) | exact HB.out)⟩⟩
    case round =>
     clear H'
     try clear p1
     try clear q1
     try clear hx1
     try clear qi1
     try clear c2
     try clear p2
     try clear c3
     try clear c3b0
     try clear c3b1
     try clear c4
     try clear c4b0
     try clear c4b1
     try clear c5
     try clear c5b0
     try clear c5b1
     try clear c6
     try clear c6b0
     try clear p6
     try clear c7
     try clear hx134_0
     try clear hx134_1
     try clear hx135_0
     try clear hx135_1
     try clear hx136_0
     try clear hx136_1
     try clear p1
     try clear p134
     try clear p135
     try clear p136
     try clear p2
     try clear p6
     try clear q1
     try clear q134
     try clear q135
     try clear q136
     obtain ⟨x3_2, rfl, HA, HK2, HB⟩ := hrel
     cases gk with
     | zero => exact absurd HA.out (by simp [tallowref09_Check.l0])
     | succ k2 =>
      have H := HA.out
      clear HA
      simp only [tallowref09_Check.l0] at H
      by_cases c8 : x3_2 < (l0.length : Int)
      ·rw [if_pos c8] at H
       have c8b0 : decide (x3_2 < (l0.length : Int)) = true := decide_eq_true c8
       clear c8
       by_cases c9 : 0 ≤ x3_2
       ·rw [if_pos c9] at H
        have c9b0 : decide (0 ≤ x3_2) = true := decide_eq_true c9
        clear c9
        replace H := Option.bind_eq_some_iff.mp H
        obtain ⟨t138, A100, H⟩ := H
        replace H : (if t138 = true then (if ((rd_T24 l0 x3_2).f0) = 0 then (some false) else (tallowref09_Check.l0 k2 l0 (wrap64 (x3_2 + 1)))) else (some false)) = some r := H
        have A10 := Aside0.mk A100
        clear A100
        by_cases c11 : t138 = true
        ·subst c11
         have H1 : (if ((rd_T24 l0 x3_2).f0) = 0 then (some false) else (tallowref09_Check.l0 k2 l0 (wrap64 (x3_2 + 1)))) = some r := by rw [if_pos rfl] at H; exact H
         clear H
         have H := H1
         clear H1
         by_cases c12 : ((rd_T24 l0 x3_2).f0) = 0
         ·rw [if_pos c12] at H
          have c12b0 : (((rd_T24 l0 x3_2).f0) == 0) = true := beq_iff_eq.mpr c12
          have c12b1 : (((rd_T24 l0 x3_2).f0) != 0) = false := bne_eq_false_iff_eq.mpr c12
          clear c12
          obtain rfl := Option.some.inj H
          have p137 : 0 ≤ (x3_2 : Int) := of_decide_eq_true (by first | (with_reducible assumption) | assumption)
          have q137 : x3_2 < (l0.length : Int) := of_decide_eq_true (by first | (with_reducible assumption) | assumption)
          obtain ⟨ad137, e137, hx137_0, hx137_1⟩ := at_T24 HR0.out x3_2 p137 q137
          cases e137
          replace hx137_0 := (HB.out.cell (World.block_lt_of_cell? w _ hx137_0)).trans hx137_0
          replace hx137_1 := (HB.out.cell (World.block_lt_of_cell? w _ hx137_1)).trans hx137_1
          replace p137 := eq_true p137
          replace q137 := eq_true q137
          go_wp2_with (first | (go_at_call 37; (with_reducible refine (tallowref02_May.calls k2 ((rd_T24 l0 x3_2).f0) ((rd_T24 l0 x3_2).f1) true _ A10.out).mono ?_); rintro e w13 ⟨rfl, hb⟩; have n0_ := Aside0.mk (below_step (by repeat (first | (with_reducible first | exact HB.out | apply below_alloc | apply pw_below_drewN | apply below_drew1) | exact HB.out)) hb); clear HB; have HB := n0_; clear n0_; (try clear hb); (try clear hb2); (try clear hk); (try clear hi); have p139 : 0 ≤ (x3_2 : Int) := of_decide_eq_true (by first | (with_reducible assumption) | assumption); have q139 : x3_2 < (l0.length : Int) := of_decide_eq_true (by first | (with_reducible assumption) | assumption); obtain ⟨ad139, e139, hx139_0, hx139_1⟩ := at_T24 HR0.out x3_2 p139 q139; obtain rfl : ad137 = ad139 := (by injection e139); replace hx139_0 := (HB.out.cell (World.block_lt_of_cell? w _ hx139_0)).trans hx139_0; replace hx139_1 := (HB.out.cell (World.block_lt_of_cell? w _ hx139_1)).trans hx139_1; replace p139 := eq_true p139; replace q139 := eq_true q139))
          repeat (go_quiet (first | (go_at_call 37; (with_reducible refine (tallowref02_May.calls k2 ((rd_T24 l0 x3_2).f0) ((rd_T24 l0 x3_2).f1) true _ A10.out).mono ?_); rintro e w13 ⟨rfl, hb⟩; have n0_ := Aside0.mk (below_step (by repeat (first | (with_reducible first | exact HB.out | apply below_alloc | apply pw_below_drewN | apply below_drew1) | exact HB.out)) hb); clear HB; have HB := n0_; clear n0_; (try clear hb); (try clear hb2); (try clear hk); (try clear hi); have p139 : 0 ≤ (x3_2 : Int) := of_decide_eq_true (by first | (with_reducible assumption) | assumption); have q139 : x3_2 < (l0.length : Int) := of_decide_eq_true (by first | (with_reducible assumption) | assumption); obtain ⟨ad139, e139, hx139_0, hx139_1⟩ := at_T24 HR0.out x3_2 p139 q139; obtain rfl : ad137 = ad139 := (by injection e139); replace hx139_0 := (HB.out.cell (World.block_lt_of_cell? w _ hx139_0)).trans hx139_0; replace hx139_1 := (HB.out.cell (World.block_lt_of_cell? w _ hx139_1)).trans hx139_1; replace p139 := eq_true p139; replace q139 := eq_true q139)); try go_wp2_with (first | (go_at_call 37; (with_reducible refine (tallowref02_May.calls k2 ((rd_T24 l0 x3_2).f0) ((rd_T24 l0 x3_2).f1) true _ A10.out).mono ?_); rintro e w13 ⟨rfl, hb⟩; have n0_ := Aside0.mk (below_step (by repeat (first | (with_reducible first | exact HB.out | apply below_alloc | apply pw_below_drewN | apply below_drew1) | exact HB.out)) hb); clear HB; have HB := n0_; clear n0_; (try clear hb); (try clear hb2); (try clear hk); (try clear hi); have p139 : 0 ≤ (x3_2 : Int) := of_decide_eq_true (by first | (with_reducible assumption) | assumption); have q139 : x3_2 < (l0.length : Int) := of_decide_eq_true (by first | (with_reducible assumption) | assumption); obtain ⟨ad139, e139, hx139_0, hx139_1⟩ := at_T24 HR0.out x3_2 p139 q139; obtain rfl : ad137 = ad139 := (by injection e139); replace hx139_0 := (HB.out.cell (World.block_lt_of_cell? w _ hx139_0)).trans hx139_0; replace hx139_1 := (HB.out.cell (World.block_lt_of_cell? w _ hx139_1)).trans hx139_1; replace p139 := eq_true p139; replace q139 := eq_true q139)))
          go_ret
          exact ⟨by first | rfl | (simp [errW_none, errW_some] <;> rfl) | (simp [*, errW_none, errW_some] <;> rfl), by repeat (first | (with_reducible first | exact HB.out | apply below_alloc | apply pw_below_drewN | apply below_drew1) | exact HB.out)⟩
         ·rw [if_neg c12] at H
          have c12b0 : (((rd_T24 l0 x3_2).f0) == 0) = false := beq_eq_false_iff_ne.mpr c12
          have c12b1 : (((rd_T24 l0 x3_2).f0) != 0) = true := bne_iff_ne.mpr c12
          have H' := Aside0.mk H
          clear H
          have p137 : 0 ≤ (x3_2 : Int) := of_decide_eq_true (by first | (with_reducible assumption) | assumption)
          have q137 : x3_2 < (l0.length : Int) := of_decide_eq_true (by first | (with_reducible assumption) | assumption)
          obtain ⟨ad137, e137, hx137_0, hx137_1⟩ := at_T24 HR0.out x3_2 p137 q137
          cases e137
          replace hx137_0 := (HB.out.cell (World.block_lt_of_cell? w _ hx137_0)).trans hx137_0
          replace hx137_1 := (HB.out.cell (World.block_lt_of_cell? w _ hx137_1)).trans hx137_1
          replace p137 := eq_true p137
          replace q137 := eq_true q137
          go_wp2_with (first | (go_at_call 37; (with_reducible refine (tallowref02_May.calls k2 ((rd_T24 l0 x3_2).f0) ((rd_T24 l0 x3_2).f1) true _ A10.out).mono ?_); rintro e w14 ⟨rfl, hb⟩; have n0_ := Aside0.mk (below_step (by repeat (first | (with_reducible first | exact HB.out | apply below_alloc | apply pw_below_drewN | apply below_drew1) | exact HB.out)) hb); clear HB; have HB := n0_; clear n0_; (try clear hb); (try clear hb2); (try clear hk); (try clear hi); have p139 : 0 ≤ (x3_2 : Int) := of_decide_eq_true (by first | (with_reducible assumption) | assumption); have q139 : x3_2 < (l0.length : Int) := of_decide_eq_true (by first | (with_reducible assumption) | assumption); obtain ⟨ad139, e139, hx139_0, hx139_1⟩ := at_T24 HR0.out x3_2 p139 q139; obtain rfl : ad137 = ad139 := (by injection e139); replace hx139_0 := (HB.out.cell (World.block_lt_of_cell? w _ hx139_0)).trans hx139_0; replace hx139_1 := (HB.out.cell (World.block_lt_of_cell? w _ hx139_1)).trans hx139_1; replace p139 := eq_true p139; replace q139 := eq_true q139))
          repeat (go_quiet (first | (go_at_call 37; (with_reducible refine (tallowref02_May.calls k2 ((rd_T24 l0 x3_2).f0) ((rd_T24 l0 x3_2).f1) true _ A10.out).mono ?_); rintro e w14 ⟨rfl, hb⟩; have n0_ := Aside0.mk (below_step (by repeat (first | (with_reducible first | exact HB.out | apply below_alloc | apply pw_below_drewN | apply below_drew1) | exact HB.out)) hb); clear HB; have HB := n0_; clear n0_; (try clear hb); (try clear hb2); (try clear hk); (try clear hi); have p139 : 0 ≤ (x3_2 : Int) := of_decide_eq_true (by first | (with_reducible assumption) | assumption); have q139 : x3_2 < (l0.length : Int) := of_decide_eq_true (by first | (with_reducible assumption) | assumption); obtain ⟨ad139, e139, hx139_0, hx139_1⟩ := at_T24 HR0.out x3_2 p139 q139; obtain rfl : ad137 = ad139 := (by injection e139); replace hx139_0 := (HB.out.cell (World.block_lt_of_cell? w _ hx139_0)).trans hx139_0; replace hx139_1 := (HB.out.cell (World.block_lt_of_cell? w _ hx139_1)).trans hx139_1; replace p139 := eq_true p139; replace q139 := eq_true q139)); try go_wp2_with (first | (go_at_call 37; (with_reducible refine (tallowref02_May.calls k2 ((rd_T24 l0 x3_2).f0) ((rd_T24 l0 x3_2).f1) true _ A10.out).mono ?_); rintro e w14 ⟨rfl, hb⟩; have n0_ := Aside0.mk (below_step (by repeat (first | (with_reducible first | exact HB.out | apply below_alloc | apply pw_below_drewN | apply below_drew1) | exact HB.out)) hb); clear HB; have HB := n0_; clear n0_; (try clear hb); (try clear hb2); (try clear hk); (try clear hi); have p139 : 0 ≤ (x3_2 : Int) := of_decide_eq_true (by first | (with_reducible assumption) | assumption); have q139 : x3_2 < (l0.length : Int) := of_decide_eq_true (by first | (with_reducible assumption) | assumption); obtain ⟨ad139, e139, hx139_0, hx139_1⟩ := at_T24 HR0.out x3_2 p139 q139; obtain rfl : ad137 = ad139 := (by injection e139); replace hx139_0 := (HB.out.cell (World.block_lt_of_cell? w _ hx139_0)).trans hx139_0; replace hx139_1 := (HB.out.cell (World.block_lt_of_cell? w _ hx139_1)).trans hx139_1; replace p139 := eq_true p139; replace q139 := eq_true q139)))
          go_roundg k2
          case measure => have := HJ1.out; have := HK2.out; omega
          case rel => exact ⟨(wrap64 (x3_2 + 1)), (by first | rfl | (simp; done) | (simp [*]; done)), H', ⟨by have := HJ1.out; have := HK2.out; omega⟩, ⟨by repeat (first | (with_reducible first | exact HB.out | apply below_alloc | apply pw_below_drewN | apply below_drew1) | exact HB.out)⟩⟩
        ·replace c11 := Bool.eq_false_iff.mpr c11
         subst c11
         have H1 : (some false) = some r := by rw [if_neg (show ¬ (false = true) by decide)] at H; exact H
         clear H
         have H := H1
         clear H1
         obtain rfl := Option.some.inj H
         have p137 : 0 ≤ (x3_2 : Int) := of_decide_eq_true (by first | (with_reducible assumption) | assumption)
         have q137 : x3_2 < (l0.length : Int) := of_decide_eq_true (by first | (with_reducible assumption) | assumption)
         obtain ⟨ad137, e137, hx137_0, hx137_1⟩ := at_T24 HR0.out x3_2 p137 q137
         cases e137
         replace hx137_0 := (HB.out.cell (World.block_lt_of_cell? w _ hx137_0)).trans hx137_0
         replace hx137_1 := (HB.out.cell (World.block_lt_of_cell? w _ hx137_1)).trans hx137_1
         replace p137 := eq_true p137
         replace q137 := eq_true q137
         go_wp2_with (first | (go_at_call 37; (with_reducible refine (tallowref02_May.calls k2 ((rd_T24 l0 x3_2).f0) ((rd_T24 l0 x3_2).f1) false _ A10.out).mono ?_); rintro e w15 ⟨rfl, hb⟩; have n0_ := Aside0.mk (below_step (by repeat (first | (with_reducible first | exact HB.out | apply below_alloc | apply pw_below_drewN | apply below_drew1) | exact HB.out)) hb); clear HB; have HB := n0_; clear n0_; (try clear hb); (try clear hb2); (try clear hk); (try clear hi)))
         repeat (go_quiet (first | (go_at_call 37; (with_reducible refine (tallowref02_May.calls k2 ((rd_T24 l0 x3_2).f0) ((rd_T24 l0 x3_2).f1) false _ A10.out).mono ?_); rintro e w15 ⟨rfl, hb⟩; have n0_ := Aside0.mk (below_step (by repeat (first | (with_reducible first | exact HB.out | apply below_alloc | apply pw_below_drewN | apply below_drew1) | exact HB.out)) hb); clear HB; have HB := n0_; clear n0_; (try clear hb); (try clear hb2); (try clear hk); (try clear hi))); try go_wp2_with (first | (go_at_call 37; (with_reducible refine (tallowref02_May.calls k2 ((rd_T24 l0 x3_2).f0) ((rd_T24 l0 x3_2).f1) false _ A10.out).mono ?_); rintro e w15 ⟨rfl, hb⟩; have n0_ := Aside0.mk (below_step (by repeat (first | (with_reducible first | exact HB.out | apply below_alloc | apply pw_below_drewN | apply below_drew1) | exact HB.out)) hb); clear HB; have HB := n0_; clear n0_; (try clear hb); (try clear hb2); (try clear hk); (try clear hi))))
         go_ret
         exact ⟨by first | rfl | (simp [errW_none, errW_some] <;> rfl) | (simp [*, errW_none, errW_some] <;> rfl), by repeat (first | (with_reducible first | exact HB.out | apply below_alloc | apply pw_below_drewN | apply below_drew1) | exact HB.out)⟩
       ·rw [if_neg c9] at H
        exact absurd H (by simp)
      ·rw [if_neg c8] at H
       have c8b0 : decide (x3_2 < (l0.length : Int)) = false := decide_eq_false c8
       clear c8
       have HC16 := Aside0.mk H
       clear H
       go_upto_region 8 with (fail)
       repeat (go_quiet (fail); go_upto_region 8 with (fail))
       go_cut [65] (fun v65 wc => ∃ (kq : Nat) (x65_15 : Bool), v65 = .bool x65_15 ∧ Aside0 (tallowref09_Check.j2 kq l0 x65_15 = some r) ∧ Aside0 (kq ≤ k2) ∧ Aside0 (Below w.heap.size w wc))
       case first =>
        have H := HC16.out
        clear HC16
        by_cases c17 : 0 < (l0.length : Int)
        ·rw [if_pos c17] at H
         have c17b0 : decide (0 < (l0.length : Int)) = true := decide_eq_true c17
         have c17b1 : decide (0 < l0.length) = true := decide_eq_true (by omega)
         clear c17
         (first | rw [c17b0] | (simp only [i64_w, i32_w]; rw [c17b0]) | skip)
         by_cases c18 : ((rd_T24 l0 0).f0) = 1
         ·rw [if_pos c18] at H
          have c18b0 : (((rd_T24 l0 0).f0) == 1) = true := beq_iff_eq.mpr c18
          have c18b1 : (((rd_T24 l0 0).f0) != 1) = false := bne_eq_false_iff_eq.mpr c18
          clear c18
          have H' := Aside0.mk H
          clear H
          have p140 : 0 ≤ (0 : Int) := (by omega)
          have q140 : 0 < (l0.length : Int) := of_decide_eq_true (by first | (with_reducible assumption) | assumption)
          obtain ⟨ad140, e140, hx140_0, hx140_1⟩ := at_T24 HR0.out 0 p140 q140
          cases e140
          have qi140 : (0 < l0.length) = True := eq_true (by omega)
          (try rw [show ((0 : Int)).toNat = 0 from rfl] at hx140_0)
          (try rw [show 0 * 2 = 0 from rfl] at hx140_0)
          (try rw [Addr.add_zero'] at hx140_0)
          (try rw [show ((0 : Int)).toNat = 0 from rfl] at hx140_1)
          (try rw [show 0 * 2 = 0 from rfl] at hx140_1)
          (try rw [Addr.add_zero'] at hx140_1)
          replace hx140_0 := (HB.out.cell (World.block_lt_of_cell? w _ hx140_0)).trans hx140_0
          replace hx140_1 := (HB.out.cell (World.block_lt_of_cell? w _ hx140_1)).trans hx140_1
          replace p140 := eq_true p140
          replace q140 := eq_true q140
          go_wp2
          repeat (go_quiet (fail); try go_wp2)
          go_meet
          case rel => exact ⟨_, (false), (by first | rfl | (simp; done) | (simp [*]; done)), H', ⟨by have := HJ1.out; have := HK2.out; first | omega | exact Nat.le_refl _⟩, ⟨by repeat (first | (with_reducible first | exact HB.out | apply below_alloc | apply pw_below_drewN | apply below_drew1) | exact HB.out)⟩⟩
         ·rw [if_neg c18] at H
          have c18b0 : (((rd_T24 l0 0).f0) == 1) = false := beq_eq_false_iff_ne.mpr c18
          have c18b1 : (((rd_T24 l0 0).f0) != 1) = true := bne_iff_ne.mpr c18
          have H' := Aside0.mk H
          clear H
          have p140 : 0 ≤ (0 : Int) := (by omega)
          have q140 : 0 < (l0.length : Int) := of_decide_eq_true (by first | (with_reducible assumption) | assumption)
          obtain ⟨ad140, e140, hx140_0, hx140_1⟩ := at_T24 HR0.out 0 p140 q140
          cases e140
          have qi140 : (0 < l0.length) = True := eq_true (by omega)
          (try rw [show ((0 : Int)).toNat = 0 from rfl] at hx140_0)
          (try rw [show 0 * 2 = 0 from rfl] at hx140_0)
          (try rw [Addr.add_zero'] at hx140_0)
          (try rw [show ((0 : Int)).toNat = 0 from rfl] at hx140_1)
          (try rw [show 0 * 2 = 0 from rfl] at hx140_1)
          (try rw [Addr.add_zero'] at hx140_1)
          replace hx140_0 := (HB.out.cell (World.block_lt_of_cell? w _ hx140_0)).trans hx140_0
          replace hx140_1 := (HB.out.cell (World.block_lt_of_cell? w _ hx140_1)).trans hx140_1
          replace p140 := eq_true p140
          replace q140 := eq_true q140
          have p141 : 0 ≤ (0 : Int) := (by omega)
          have q141 : 0 < (l0.length : Int) := of_decide_eq_true (by first | (with_reducible assumption) | assumption)
          obtain ⟨ad141, e141, hx141_0, hx141_1⟩ := at_T24 HR0.out 0 p141 q141
          obtain rfl : ad140 = ad141 := (by injection e141)
          have qi141 : (0 < l0.length) = True := eq_true (by omega)
          (try rw [show ((0 : Int)).toNat = 0 from rfl] at hx141_0)
          (try rw [show 0 * 2 = 0 from rfl] at hx141_0)
          (try rw [Addr.add_zero'] at hx141_0)
          (try rw [show ((0 : Int)).toNat = 0 from rfl] at hx141_1)
          (try rw [show 0 * 2 = 0 from rfl] at hx141_1)
          (try rw [Addr.add_zero'] at hx141_1)
          replace hx141_0 := (HB.out.cell (World.block_lt_of_cell? w _ hx141_0)).trans hx141_0
          replace hx141_1 := (HB.out.cell (World.block_lt_of_cell? w _ hx141_1)).trans hx141_1
          replace p141 := eq_true p141
          replace q141 := eq_true q141
          go_wp2
          repeat (go_quiet (fail); try go_wp2)
          go_meet
          case rel => exact ⟨_, ((((rd_T24 l0 0).f0) != 6)), (by first | rfl | (simp; done) | (simp [*]; done)), H', ⟨by have := HJ1.out; have := HK2.out; first | omega | exact Nat.le_refl _⟩, ⟨by repeat (first | (with_reducible first | exact HB.out | apply below_alloc | apply pw_below_drewN | apply below_drew1) | exact HB.out)⟩⟩
        ·rw [if_neg c17] at H
         exact absurd H (by simp)
       case rest =>
        clear HC16
        try clear c1
        try clear p1
        try clear q1
        try clear hx1
        try clear qi1
        try clear c2
        try clear p2
        try clear c3
        try clear c3b0
        try clear c3b1
        try clear c4
        try clear c4b0
        try clear c4b1
        try clear c5
        try clear c5b0
        try clear c5b1
        try clear c6
        try clear c6b0
        try clear p6
        try clear c7
        try clear c8
        try clear c8b0
        try clear c9
        try clear c9b0
        try clear c11
        try clear c12
        try clear c12b0
        try clear c12b1
        try clear p13
        try clear q13
        try clear hx13
        try clear qi13
        try clear p14
        try clear q14
        try clear hx14
        try clear qi14
        try clear c17
        try clear c17b0
        try clear c17b1
        try clear c18
        try clear c18b0
        try clear c18b1
        try clear hx134_0
        try clear hx134_1
        try clear hx135_0
        try clear hx135_1
        try clear hx136_0
        try clear hx136_1
        try clear hx137_0
        try clear hx137_1
        try clear hx139_0
        try clear hx139_1
        try clear hx140_0
        try clear hx140_1
        try clear hx141_0
        try clear hx141_1
        try clear p1
        try clear p134
        try clear p135
        try clear p136
        try clear p137
        try clear p139
        try clear p140
        try clear p141
        try clear p2
        try clear p6
        try clear q1
        try clear q134
        try clear q135
        try clear q136
        try clear q137
        try clear q139
        try clear q140
        try clear q141
        obtain ⟨kq, x65_15, rfl, HA, HJ15, HB⟩ := hcut
        cases kq with
        | zero => exact absurd HA.out (by simp [tallowref09_Check.j2])
        | succ kj15 =>
         have H := HA.out
         clear HA
         simp only [tallowref09_Check.j2] at H
         by_cases c19 : x65_15 = true
         ·subst c19
          have H1 : (some false) = some r := by rw [if_pos rfl] at H; exact H
          clear H
          have H := H1
          clear H1
          obtain rfl := Option.some.inj H
          go_wp2
          repeat (go_quiet (fail); try go_wp2)
          go_ret
          exact ⟨by first | rfl | (simp [errW_none, errW_some] <;> rfl) | (simp [*, errW_none, errW_some] <;> rfl), by repeat (first | (with_reducible first | exact HB.out | apply below_alloc | apply pw_below_drewN | apply below_drew1) | exact HB.out)⟩
         ·replace c19 := Bool.eq_false_iff.mpr c19
          subst c19
          have H1 : (if 1 < (l0.length : Int) then (if (Int.tmod (wrap64 ((wrap64 ((l0.length : Int) - 2)) - ((rd_T24 l0 1).f1))) 2) = 0 then (if ((rd_T24 l0 1).f1) > 0 then (if 0 ≤ (wrap64 (1 + ((rd_T24 l0 1).f1))) then (if (wrap64 (1 + ((rd_T24 l0 1).f1))) < (l0.length : Int) then (tallowref09_Check.j3 kj15 l0 ((rd_T24 l0 1).f1) (((rd_T24 l0 (wrap64 (1 + ((rd_T24 l0 1).f1)))).f0) == 1)) else (none)) else (none)) else (tallowref09_Check.j3 kj15 l0 ((rd_T24 l0 1).f1) false)) else (tallowref09_Check.j3 kj15 l0 ((rd_T24 l0 1).f1) true)) else (none)) = some r := by rw [if_neg (show ¬ (false = true) by decide)] at H; exact H
          clear H
          have H := H1
          clear H1
          by_cases c20 : 1 < (l0.length : Int)
          ·rw [if_pos c20] at H
           have c20b0 : decide (1 < (l0.length : Int)) = true := decide_eq_true c20
           have c20b1 : decide (1 < l0.length) = true := decide_eq_true (by omega)
           clear c20
           have HC21 := Aside0.mk H
           clear H
           have p142 : 0 ≤ (1 : Int) := (by omega)
           have q142 : 1 < (l0.length : Int) := of_decide_eq_true (by first | (with_reducible assumption) | assumption)
           obtain ⟨ad142, e142, hx142_0, hx142_1⟩ := at_T24 HR0.out 1 p142 q142
           cases e142
           (try simp only [show (1 : Int).toNat = 1 from rfl, Nat.reduceMul, Nat.reduceEqDiff, Go.Addr.add, ↓reduceIte] at hx142_0)
           (try simp only [show (1 : Int).toNat = 1 from rfl, Nat.reduceMul, Nat.reduceEqDiff, Go.Addr.add, ↓reduceIte] at hx142_1)
           have qi142 : (1 < l0.length) = True := eq_true (by omega)
           (try rw [show ((1 : Int)).toNat = 1 from rfl] at hx142_0)
           (try rw [show 1 * 2 = 2 from rfl] at hx142_0)
           (try rw [show ((1 : Int)).toNat = 1 from rfl] at hx142_1)
           (try rw [show 1 * 2 = 2 from rfl] at hx142_1)
           replace hx142_0 := (HB.out.cell (World.block_lt_of_cell? w _ hx142_0)).trans hx142_0
           replace hx142_1 := (HB.out.cell (World.block_lt_of_cell? w _ hx142_1)).trans hx142_1
           replace p142 := eq_true p142
           replace q142 := eq_true q142
           go_upto_region 11 with (fail)
           repeat (go_quiet (fail); go_upto_region 11 with (fail))
           go_cut [89] (fun v89 wc => ∃ (kq : Nat) (x89_20 : Bool), v89 = .bool x89_20 ∧ Aside0 (tallowref09_Check.j3 kq l0 ((rd_T24 l0 1).f1) x89_20 = some r) ∧ Aside0 (kq ≤ kj15) ∧ Aside0 (Below w.heap.size w wc))
           case first =>
            have H := HC21.out
            clear HC21
            by_cases c22 : (Int.tmod (wrap64 ((wrap64 ((l0.length : Int) - 2)) - ((rd_T24 l0 1).f1))) 2) = 0
            ·rw [if_pos c22] at H
             have c22b0 : ((Int.tmod (wrap64 ((wrap64 ((l0.length : Int) - 2)) - ((rd_T24 l0 1).f1))) 2) == 0) = true := beq_iff_eq.mpr c22
             have c22b1 : ((Int.tmod (wrap64 ((wrap64 ((l0.length : Int) - 2)) - ((rd_T24 l0 1).f1))) 2) != 0) = false := bne_eq_false_iff_eq.mpr c22
             clear c22
             (first | rw [c22b0] | (simp only [i64_w, i32_w]; rw [c22b0]) | skip)
             by_cases c23 : ((rd_T24 l0 1).f1) > 0
             ·rw [if_pos c23] at H
              have c23b0 : decide (0 < ((rd_T24 l0 1).f1)) = true := decide_eq_true c23
              clear c23
              obtain ⟨ji24, hji24⟩ : ∃ j_ : Int, (wrap64 (1 + ((rd_T24 l0 1).f1))) = j_ := ⟨_, rfl⟩
              replace H : (if 0 ≤ (ji24) then (if (ji24) < (l0.length : Int) then (tallowref09_Check.j3 kj15 l0 ((rd_T24 l0 1).f1) (((rd_T24 l0 (ji24)).f0) == 1)) else (none)) else (none)) = some r := by first | (rw [hji24] at H; exact H) | (simp only [hji24] at H ⊢; exact H)
              have hji24w : (IntKind.i64.wrap (1 + ((rd_T24 l0 1).f1))) = ji24 := (i64_w _).trans hji24
              by_cases c25 : 0 ≤ (ji24)
              ·rw [if_pos c25] at H
               have c25b0 : decide (0 ≤ (ji24)) = true := decide_eq_true c25
               clear c25
               by_cases c26 : (ji24) < (l0.length : Int)
               ·rw [if_pos c26] at H
                have c26b0 : decide ((ji24) < (l0.length : Int)) = true := decide_eq_true c26
                clear c26
                have H' := Aside0.mk H
                clear H
                have p143 : 0 ≤ ((ji24) : Int) := of_decide_eq_true (by first | (with_reducible assumption) | assumption)
                have q143 : (ji24) < (l0.length : Int) := of_decide_eq_true (by first | (with_reducible assumption) | assumption)
                obtain ⟨ad143, e143, hx143_0, hx143_1⟩ := at_T24 HR0.out (ji24) p143 q143
                obtain rfl : ad142 = ad143 := (by injection e143)
                replace hx143_0 := (HB.out.cell (World.block_lt_of_cell? w _ hx143_0)).trans hx143_0
                replace hx143_1 := (HB.out.cell (World.block_lt_of_cell? w _ hx143_1)).trans hx143_1
                replace p143 := eq_true p143
                replace q143 := eq_true q143
                go_wp2
                repeat (go_quiet (fail); try go_wp2)
                go_meet
                case rel => exact ⟨_, ((((rd_T24 l0 (ji24)).f0) == 1)), (by first | rfl | (simp; done) | (simp only [← hji24] <;> (first | rfl | simp)) | (simp [*]; done)), H', ⟨by have := HJ1.out; have := HK2.out; have := HJ15.out; first | omega | exact Nat.le_refl _⟩, ⟨by repeat (first | (with_reducible first | exact HB.out | apply below_alloc | apply pw_below_drewN | apply below_drew1) | exact HB.out)⟩⟩
               ·rw [if_neg c26] at H
                exact absurd H (by simp)
              ·rw [if_neg c25] at H
               exact absurd H (by simp)
             ·rw [if_neg c23] at H
              have c23b0 : decide (0 < ((rd_T24 l0 1).f1)) = false := decide_eq_false c23
              clear c23
              have H' := Aside0.mk H
              clear H
              go_wp2
              repeat (go_quiet (fail); try go_wp2)
              go_meet
              case rel => exact ⟨_, (false), (by first | rfl | (simp; done) | (simp [*]; done)), H', ⟨by have := HJ1.out; have := HK2.out; have := HJ15.out; first | omega | exact Nat.le_refl _⟩, ⟨by repeat (first | (with_reducible first | exact HB.out | apply below_alloc | apply pw_below_drewN | apply below_drew1) | exact HB.out)⟩⟩
            ·rw [if_neg c22] at H
             have c22b0 : ((Int.tmod (wrap64 ((wrap64 ((l0.length : Int) - 2)) - ((rd_T24 l0 1).f1))) 2) == 0) = false := beq_eq_false_iff_ne.mpr c22
             have c22b1 : ((Int.tmod (wrap64 ((wrap64 ((l0.length : Int) - 2)) - ((rd_T24 l0 1).f1))) 2) != 0) = true := bne_iff_ne.mpr c22
             (first | rw [c22b0] | (simp only [i64_w, i32_w]; rw [c22b0]) | skip)
             have H' := Aside0.mk H
             clear H
             go_wp2
             repeat (go_quiet (fail); try go_wp2)
             go_meet
             case rel => exact ⟨_, (true), (by first | rfl | (simp; done) | (simp [*]; done)), H', ⟨by have := HJ1.out; have := HK2.out; have := HJ15.out; first | omega | exact Nat.le_refl _⟩, ⟨by repeat (first | (with_reducible first | exact HB.out | apply below_alloc | apply pw_below_drewN | apply below_drew1) | exact HB.out)⟩⟩
           case rest =>
            clear HC21
            try clear c1
            try clear p1
            try clear q1
            try clear hx1
            try clear qi1
            try clear c2
            try clear p2
            try clear c3
            try clear c3b0
            try clear c3b1
            try clear c4
            try clear c4b0
            try clear c4b1
            try clear c5
            try clear c5b0
            try clear c5b1
            try clear c6
            try clear c6b0
            try clear p6
            try clear c7
            try clear c8
            try clear c8b0
            try clear c9
            try clear c9b0
            try clear c11
            try clear c12
            try clear c12b0
            try clear c12b1
            try clear p13
            try clear q13
            try clear hx13
            try clear qi13
            try clear p14
            try clear q14
            try clear hx14
            try clear qi14
            try clear c17
            try clear c17b0
            try clear c17b1
            try clear c18
            try clear c18b0
            try clear c18b1
            try clear c19
            try clear c20
            try clear c20b0
            try clear c20b1
            try clear c22
            try clear c22b0
            try clear c22b1
            try clear c23
            try clear c23b0
            try clear c25
            try clear c25b0
            try clear c26
            try clear c26b0
            try clear hx134_0
            try clear hx134_1
            try clear hx135_0
            try clear hx135_1
            try clear hx136_0
            try clear hx136_1
            try clear hx137_0
            try clear hx137_1
            try clear hx139_0
            try clear hx139_1
            try clear hx140_0
            try clear hx140_1
            try clear hx141_0
            try clear hx141_1
            try clear hx142_0
            try clear hx142_1
            try clear hx143_0
            try clear hx143_1
            try clear p1
            try clear p13
            try clear p134
            try clear p135
            try clear p136
            try clear p137
            try clear p139
            try clear p14
            try clear p140
            try clear p141
            try clear p142
            try clear p143
            try clear p2
            try clear p6
            try clear q1
            try clear q13
            try clear q134
            try clear q135
            try clear q136
            try clear q137
            try clear q139
            try clear q14
            try clear q140
            try clear q141
            try clear q142
            try clear q143
            obtain ⟨kq, x89_20, rfl, HA, HJ20, HB⟩ := hcut
            cases kq with
            | zero => exact absurd HA.out (by simp [tallowref09_Check.j3])
            | succ kj20 =>
             have H := HA.out
             clear HA
             simp only [tallowref09_Check.j3] at H
             by_cases c27 : x89_20 = true
             ·subst c27
              have H1 : (some false) = some r := by rw [if_pos rfl] at H; exact H
              clear H
              have H := H1
              clear H1
              obtain rfl := Option.some.inj H
              go_wp2
              repeat (go_quiet (fail); try go_wp2)
              go_ret
              exact ⟨by first | rfl | (simp [errW_none, errW_some] <;> rfl) | (simp [*, errW_none, errW_some] <;> rfl), by repeat (first | (with_reducible first | exact HB.out | apply below_alloc | apply pw_below_drewN | apply below_drew1) | exact HB.out)⟩
             ·replace c27 := Bool.eq_false_iff.mpr c27
              subst c27
              have H1 : (tallowref09_Check.l1 kj20 l0 ((rd_T24 l0 1).f1) (wrap64 (2 + ((rd_T24 l0 1).f1)))) = some r := by rw [if_neg (show ¬ (false = true) by decide)] at H; exact H
              clear H
              have H := H1
              clear H1
              have H' := Aside0.mk H
              clear H
              go_wp2
              repeat (go_quiet (fail); try go_wp2)
              go_loopg [5] kj20 (fun kq v5 w' => ∃ (x5_5 : Int), v5 = .int .i64 x5_5 ∧ Aside0 (tallowref09_Check.l1 kq l0 ((rd_T24 l0 1).f1) x5_5 = some r) ∧ Aside0 (kq ≤ kj20) ∧ Aside0 (Below w.heap.size w w'))
              case atStart => exact ⟨(wrap64 (2 + ((rd_T24 l0 1).f1))), (by first | rfl | (simp; done) | (simp [*]; done)), H', ⟨Nat.le_refl _⟩, ⟨by repeat (first | (with_reducible first | exact HB.out | apply below_alloc | apply pw_below_drewN | apply below_drew1) | exact HB.out)⟩⟩
              case round =>
               clear H'
               try clear c1
               try clear p1
               try clear q1
               try clear hx1
               try clear qi1
               try clear c2
               try clear p2
               try clear c3
               try clear c3b0
               try clear c3b1
               try clear c4
               try clear c4b0
               try clear c4b1
               try clear c5
               try clear c5b0
               try clear c5b1
               try clear c6
               try clear c6b0
               try clear p6
               try clear c7
               try clear c8
               try clear c8b0
               try clear c9
               try clear c9b0
               try clear c11
               try clear c12
               try clear c12b0
               try clear c12b1
               try clear p13
               try clear q13
               try clear hx13
               try clear qi13
               try clear p14
               try clear q14
               try clear hx14
               try clear qi14
               try clear c17
               try clear c17b0
               try clear c17b1
               try clear c18
               try clear c18b0
               try clear c18b1
               try clear c19
               try clear c20
               try clear c20b0
               try clear c20b1
               try clear c22
               try clear c22b0
               try clear c22b1
               try clear c23
               try clear c23b0
               try clear c25
               try clear c25b0
               try clear c26
               try clear c26b0
               try clear c27
               try clear hx134_0
               try clear hx134_1
               try clear hx135_0
               try clear hx135_1
               try clear hx136_0
               try clear hx136_1
               try clear hx137_0
               try clear hx137_1
               try clear hx139_0
               try clear hx139_1
               try clear hx140_0
               try clear hx140_1
               try clear hx141_0
               try clear hx141_1
               try clear hx142_0
               try clear hx142_1
               try clear hx143_0
               try clear hx143_1
               try clear p1
               try clear p13
               try clear p134
               try clear p135
               try clear p136
               try clear p137
               try clear p139
               try clear p14
               try clear p140
               try clear p141
               try clear p142
               try clear p143
               try clear p2
               try clear p6
               try clear q1
               try clear q13
               try clear q134
               try clear q135
               try clear q136
               try clear q137
               try clear q139
               try clear q14
               try clear q140
               try clear q141
               try clear q142
               try clear q143
               obtain ⟨x5_5, rfl, HA, HK5, HB⟩ := hrel
               cases gk with
               | zero => exact absurd HA.out (by simp [tallowref09_Check.l1])
               | succ k5 =>
                have H := HA.out
                clear HA
                simp only [tallowref09_Check.l1] at H
                by_cases c28 : x5_5 < (l0.length : Int)
                ·rw [if_pos c28] at H
                 have c28b0 : decide (x5_5 < (l0.length : Int)) = true := decide_eq_true c28
                 clear c28
                 have HC29 := Aside0.mk H
                 clear H
                 go_upto_region 16 with (fail)
                 repeat (go_quiet (fail); go_upto_region 16 with (fail))
                 go_cut [121] (fun v121 wc => ∃ (kq : Nat) (x121_28 : Bool), v121 = .bool x121_28 ∧ Aside0 (tallowref09_Check.j5 kq l0 ((rd_T24 l0 1).f1) x5_5 x121_28 = some r) ∧ Aside0 (kq ≤ k5) ∧ Aside0 (Below w.heap.size w wc))
                 case first =>
                  have H := HC29.out
                  clear HC29
                  by_cases c30 : 0 ≤ x5_5
                  ·rw [if_pos c30] at H
                   have c30b0 : decide (0 ≤ x5_5) = true := decide_eq_true c30
                   clear c30
                   (first | rw [c30b0] | (simp only [i64_w, i32_w]; rw [c30b0]) | skip)
                   replace H := Option.bind_eq_some_iff.mp H
                   obtain ⟨t145, A310, H⟩ := H
                   replace H : (if t145 = true then (if 0 ≤ (wrap64 (x5_5 + 1)) then (if (wrap64 (x5_5 + 1)) < (l0.length : Int) then (if ((rd_T24 l0 (wrap64 (x5_5 + 1))).f0) = 1 then (tallowref09_Check.j5 k5 l0 ((rd_T24 l0 1).f1) x5_5 true) else ((tallowref09_within.f ((rd_T24 l0 x5_5).f0) ((rd_T24 l0 x5_5).f1) 1 (wrap64 (((rd_T24 l0 1).f1) + 1))).bind fun t148 => (tallowref09_Check.j5 k5 l0 ((rd_T24 l0 1).f1) x5_5 t148))) else (none)) else (none)) else (tallowref09_Check.j5 k5 l0 ((rd_T24 l0 1).f1) x5_5 true)) = some r := H
                   have A31 := Aside0.mk A310
                   clear A310
                   by_cases c32 : t145 = true
                   ·subst c32
                    have H1 : (if 0 ≤ (wrap64 (x5_5 + 1)) then (if (wrap64 (x5_5 + 1)) < (l0.length : Int) then (if ((rd_T24 l0 (wrap64 (x5_5 + 1))).f0) = 1 then (tallowref09_Check.j5 k5 l0 ((rd_T24 l0 1).f1) x5_5 true) else ((tallowref09_within.f ((rd_T24 l0 x5_5).f0) ((rd_T24 l0 x5_5).f1) 1 (wrap64 (((rd_T24 l0 1).f1) + 1))).bind fun t148 => (tallowref09_Check.j5 k5 l0 ((rd_T24 l0 1).f1) x5_5 t148))) else (none)) else (none)) = some r := by rw [if_pos rfl] at H; exact H
                    clear H
                    have H := H1
                    clear H1
                    obtain ⟨ji33, hji33⟩ : ∃ j_ : Int, (wrap64 (x5_5 + 1)) = j_ := ⟨_, rfl⟩
                    replace H : (if 0 ≤ (ji33) then (if (ji33) < (l0.length : Int) then (if ((rd_T24 l0 (ji33)).f0) = 1 then (tallowref09_Check.j5 k5 l0 ((rd_T24 l0 1).f1) x5_5 true) else ((tallowref09_within.f ((rd_T24 l0 x5_5).f0) ((rd_T24 l0 x5_5).f1) 1 (wrap64 (((rd_T24 l0 1).f1) + 1))).bind fun t148 => (tallowref09_Check.j5 k5 l0 ((rd_T24 l0 1).f1) x5_5 t148))) else (none)) else (none)) = some r := by first | (rw [hji33] at H; exact H) | (simp only [hji33] at H ⊢; exact H)
                    (try rw [hji33] at A31)
                    have hji33w : (IntKind.i64.wrap (x5_5 + 1)) = ji33 := (i64_w _).trans hji33
                    by_cases c34 : 0 ≤ (ji33)
                    ·rw [if_pos c34] at H
                     have c34b0 : decide (0 ≤ (ji33)) = true := decide_eq_true c34
                     clear c34
                     by_cases c35 : (ji33) < (l0.length : Int)
                     ·rw [if_pos c35] at H
                      have c35b0 : decide ((ji33) < (l0.length : Int)) = true := decide_eq_true c35
                      clear c35
                      by_cases c36 : ((rd_T24 l0 (ji33)).f0) = 1
                      ·rw [if_pos c36] at H
                       have c36b0 : (((rd_T24 l0 (ji33)).f0) == 1) = true := beq_iff_eq.mpr c36
                       have c36b1 : (((rd_T24 l0 (ji33)).f0) != 1) = false := bne_eq_false_iff_eq.mpr c36
                       clear c36
                       have H' := Aside0.mk H
                       clear H
                       have p144 : 0 ≤ (x5_5 : Int) := of_decide_eq_true (by first | (with_reducible assumption) | assumption)
                       have q144 : x5_5 < (l0.length : Int) := of_decide_eq_true (by first | (with_reducible assumption) | assumption)
                       obtain ⟨ad144, e144, hx144_0, hx144_1⟩ := at_T24 HR0.out x5_5 p144 q144
                       obtain rfl : ad142 = ad144 := (by injection e144)
                       replace hx144_0 := (HB.out.cell (World.block_lt_of_cell? w _ hx144_0)).trans hx144_0
                       replace hx144_1 := (HB.out.cell (World.block_lt_of_cell? w _ hx144_1)).trans hx144_1
                       replace p144 := eq_true p144
                       replace q144 := eq_true q144
                       go_wp2_with (first | (go_at_call 38; (with_reducible refine (tallowref02_Key.calls k5 ((rd_T24 l0 x5_5).f0) ((rd_T24 l0 x5_5).f1) true _ A31.out).mono ?_); rintro e w37 ⟨rfl, hb⟩; have n0_ := Aside0.mk (below_step (by repeat (first | (with_reducible first | exact HB.out | apply below_alloc | apply pw_below_drewN | apply below_drew1) | exact HB.out)) hb); clear HB; have HB := n0_; clear n0_; (try clear hb); (try clear hb2); (try clear hk); (try clear hi); have p146 : 0 ≤ ((ji33) : Int) := of_decide_eq_true (by first | (with_reducible assumption) | assumption); have q146 : (ji33) < (l0.length : Int) := of_decide_eq_true (by first | (with_reducible assumption) | assumption); obtain ⟨ad146, e146, hx146_0, hx146_1⟩ := at_T24 HR0.out (ji33) p146 q146; obtain rfl : ad142 = ad146 := (by injection e146); replace hx146_0 := (HB.out.cell (World.block_lt_of_cell? w _ hx146_0)).trans hx146_0; replace hx146_1 := (HB.out.cell (World.block_lt_of_cell? w _ hx146_1)).trans hx146_1; replace p146 := eq_true p146; replace q146 := eq_true q146))
                       repeat (go_quiet (first | (go_at_call 38; (with_reducible refine (tallowref02_Key.calls k5 ((rd_T24 l0 x5_5).f0) ((rd_T24 l0 x5_5).f1) true _ A31.out).mono ?_); rintro e w37 ⟨rfl, hb⟩; have n0_ := Aside0.mk (below_step (by repeat (first | (with_reducible first | exact HB.out | apply below_alloc | apply pw_below_drewN | apply below_drew1) | exact HB.out)) hb); clear HB; have HB := n0_; clear n0_; (try clear hb); (try clear hb2); (try clear hk); (try clear hi); have p146 : 0 ≤ ((ji33) : Int) := of_decide_eq_true (by first | (with_reducible assumption) | assumption); have q146 : (ji33) < (l0.length : Int) := of_decide_eq_true (by first | (with_reducible assumption) | assumption); obtain ⟨ad146, e146, hx146_0, hx146_1⟩ := at_T24 HR0.out (ji33) p146 q146; obtain rfl : ad142 = ad146 := (by injection e146); replace hx146_0 := (HB.out.cell (World.block_lt_of_cell? w _ hx146_0)).trans hx146_0; replace hx146_1 := (HB.out.cell (World.block_lt_of_cell? w _ hx146_1)).trans hx146_1; replace p146 := eq_true p146; replace q146 := eq_true q146)); try go_wp2_with (first | (go_at_call 38; (with_reducible refine (tallowref02_Key.calls k5 ((rd_T24 l0 x5_5).f0) ((rd_T24 l0 x5_5).f1) true _ A31.out).mono ?_); rintro e w37 ⟨rfl, hb⟩; have n0_ := Aside0.mk (below_step (by repeat (first | (with_reducible first | exact HB.out | apply below_alloc | apply pw_below_drewN | apply below_drew1) | exact HB.out)) hb); clear HB; have HB := n0_; clear n0_; (try clear hb); (try clear hb2); (try clear hk); (try clear hi); have p146 : 0 ≤ ((ji33) : Int) := of_decide_eq_true (by first | (with_reducible assumption) | assumption); have q146 : (ji33) < (l0.length : Int) := of_decide_eq_true (by first | (with_reducible assumption) | assumption); obtain ⟨ad146, e146, hx146_0, hx146_1⟩ := at_T24 HR0.out (ji33) p146 q146; obtain rfl : ad142 = ad146 := (by injection e146); replace hx146_0 := (HB.out.cell (World.block_lt_of_cell? w _ hx146_0)).trans hx146_0; replace hx146_1 := (HB.out.cell (World.block_lt_of_cell? w _ hx146_1)).trans hx146_1; replace p146 := eq_true p146; replace q146 := eq_true q146)))
                       go_meet
                       case rel => exact ⟨_, (true), (by first | rfl | (simp; done) | (simp [*]; done)), H', ⟨by have := HJ1.out; have := HK2.out; have := HJ15.out; have := HJ20.out; have := HK5.out; first | omega | exact Nat.le_refl _⟩, ⟨by repeat (first | (with_reducible first | exact HB.out | apply below_alloc | apply pw_below_drewN | apply below_drew1) | exact HB.out)⟩⟩
                      ·rw [if_neg c36] at H
                       have c36b0 : (((rd_T24 l0 (ji33)).f0) == 1) = false := beq_eq_false_iff_ne.mpr c36
                       have c36b1 : (((rd_T24 l0 (ji33)).f0) != 1) = true := bne_iff_ne.mpr c36
                       replace H := Option.bind_eq_some_iff.mp H
                       obtain ⟨t148, A380, H⟩ := H
                       replace H : (tallowref09_Check.j5 k5 l0 ((rd_T24 l0 1).f1) x5_5 t148) = some r := H
                       have A38 := Aside0.mk A380
                       clear A380
                       have H' := Aside0.mk H
                       clear H
                       have p144 : 0 ≤ (x5_5 : Int) := of_decide_eq_true (by first | (with_reducible assumption) | assumption)
                       have q144 : x5_5 < (l0.length : Int) := of_decide_eq_true (by first | (with_reducible assumption) | assumption)
                       obtain ⟨ad144, e144, hx144_0, hx144_1⟩ := at_T24 HR0.out x5_5 p144 q144
                       obtain rfl : ad142 = ad144 := (by injection e144)
                       replace hx144_0 := (HB.out.cell (World.block_lt_of_cell? w _ hx144_0)).trans hx144_0
                       replace hx144_1 := (HB.out.cell (World.block_lt_of_cell? w _ hx144_1)).trans hx144_1
                       replace p144 := eq_true p144
                       replace q144 := eq_true q144
                       go_wp2_with (first | (go_at_call 38; (with_reducible refine (tallowref02_Key.calls k5 ((rd_T24 l0 x5_5).f0) ((rd_T24 l0 x5_5).f1) true _ A31.out).mono ?_); rintro e w39 ⟨rfl, hb⟩; have n0_ := Aside0.mk (below_step (by repeat (first | (with_reducible first | exact HB.out | apply below_alloc | apply pw_below_drewN | apply below_drew1) | exact HB.out)) hb); clear HB; have HB := n0_; clear n0_; (try clear hb); (try clear hb2); (try clear hk); (try clear hi); have p146 : 0 ≤ ((ji33) : Int) := of_decide_eq_true (by first | (with_reducible assumption) | assumption); have q146 : (ji33) < (l0.length : Int) := of_decide_eq_true (by first | (with_reducible assumption) | assumption); obtain ⟨ad146, e146, hx146_0, hx146_1⟩ := at_T24 HR0.out (ji33) p146 q146; obtain rfl : ad142 = ad146 := (by injection e146); replace hx146_0 := (HB.out.cell (World.block_lt_of_cell? w _ hx146_0)).trans hx146_0; replace hx146_1 := (HB.out.cell (World.block_lt_of_cell? w _ hx146_1)).trans hx146_1; replace p146 := eq_true p146; replace q146 := eq_true q146; have p147 : 0 ≤ (x5_5 : Int) := of_decide_eq_true (by first | (with_reducible assumption) | assumption); have q147 : x5_5 < (l0.length : Int) := of_decide_eq_true (by first | (with_reducible assumption) | assumption); obtain ⟨ad147, e147, hx147_0, hx147_1⟩ := at_T24 HR0.out x5_5 p147 q147; obtain rfl : ad142 = ad147 := (by injection e147); replace hx147_0 := (HB.out.cell (World.block_lt_of_cell? w _ hx147_0)).trans hx147_0; replace hx147_1 := (HB.out.cell (World.block_lt_of_cell? w _ hx147_1)).trans hx147_1; replace p147 := eq_true p147; replace q147 := eq_true q147) | (go_at_call 41; (with_reducible refine (tallowref09_within.calls ((rd_T24 l0 x5_5).f0) ((rd_T24 l0 x5_5).f1) 1 (wrap64 (((rd_T24 l0 1).f1) + 1)) t148 _ A38.out).mono ?_); rintro e w40 ⟨rfl, hb⟩; have n0_ := Aside0.mk (below_step (by repeat (first | (with_reducible first | exact HB.out | apply below_alloc | apply pw_below_drewN | apply below_drew1) | exact HB.out)) hb); clear HB; have HB := n0_; clear n0_; (try clear hb); (try clear hb2); (try clear hk); (try clear hi)))
                       repeat (go_quiet (first | (go_at_call 38; (with_reducible refine (tallowref02_Key.calls k5 ((rd_T24 l0 x5_5).f0) ((rd_T24 l0 x5_5).f1) true _ A31.out).mono ?_); rintro e w39 ⟨rfl, hb⟩; have n0_ := Aside0.mk (below_step (by repeat (first | (with_reducible first | exact HB.out | apply below_alloc | apply pw_below_drewN | apply below_drew1) | exact HB.out)) hb); clear HB; have HB := n0_; clear n0_; (try clear hb); (try clear hb2); (try clear hk); (try clear hi); have p146 : 0 ≤ ((ji33) : Int) := of_decide_eq_true (by first | (with_reducible assumption) | assumption); have q146 : (ji33) < (l0.length : Int) := of_decide_eq_true (by first | (with_reducible assumption) | assumption); obtain ⟨ad146, e146, hx146_0, hx146_1⟩ := at_T24 HR0.out (ji33) p146 q146; obtain rfl : ad142 = ad146 := (by injection e146); replace hx146_0 := (HB.out.cell (World.block_lt_of_cell? w _ hx146_0)).trans hx146_0; replace hx146_1 := (HB.out.cell (World.block_lt_of_cell? w _ hx146_1)).trans hx146_1; replace p146 := eq_true p146; replace q146 := eq_true q146; have p147 : 0 ≤ (x5_5 : Int) := of_decide_eq_true (by first | (with_reducible assumption) | assumption); have q147 : x5_5 < (l0.length : Int) := of_decide_eq_true (by first | (with_reducible assumption) | assumption); obtain ⟨ad147, e147, hx147_0, hx147_1⟩ := at_T24 HR0.out x5_5 p147 q147; obtain rfl : ad142 = ad147 := (by injection e147); replace hx147_0 := (HB.out.cell (World.block_lt_of_cell? w _ hx147_0)).trans hx147_0; replace hx147_1 := (HB.out.cell (World.block_lt_of_cell? w _ hx147_1)).trans hx147_1; replace p147 := eq_true p147; replace q147 := eq_true q147) | (go_at_call 41; (with_reducible refine (tallowref09_within.calls ((rd_T24 l0 x5_5).f0) ((rd_T24 l0 x5_5).f1) 1 (wrap64 (((rd_T24 l0 1).f1) + 1)) t148 _ A38.out).mono ?_); rintro e w40 ⟨rfl, hb⟩; have n0_ := Aside0.mk (below_step (by repeat (first | (with_reducible first | exact HB.out | apply below_alloc | apply pw_below_drewN | apply below_drew1) | exact HB.out)) hb); clear HB; have HB := n0_; clear n0_; (try clear hb); (try clear hb2); (try clear hk); (try clear hi))); try go_wp2_with (first | (go_at_call 38; (with_reducible refine (tallowref02_Key.calls k5 ((rd_T24 l0 x5_5).f0) ((rd_T24 l0 x5_5).f1) true _ A31.out).mono ?_); rintro e w39 ⟨rfl, hb⟩; have n0_ := Aside0.mk (below_step (by repeat (first | (with_reducible first | exact HB.out | apply below_alloc | apply pw_below_drewN | apply below_drew1) | exact HB.out)) hb); clear HB; have HB := n0_; clear n0_; (try clear hb); (try clear hb2); (try clear hk); (try clear hi); have p146 : 0 ≤ ((ji33) : Int) := of_decide_eq_true (by first | (with_reducible assumption) | assumption); have q146 : (ji33) < (l0.length : Int) := of_decide_eq_true (by first | (with_reducible assumption) | assumption); obtain ⟨ad146, e146, hx146_0, hx146_1⟩ := at_T24 HR0.out (ji33) p146 q146; obtain rfl : ad142 = ad146 := (by injection e146); replace hx146_0 := (HB.out.cell (World.block_lt_of_cell? w _ hx146_0)).trans hx146_0; replace hx146_1 := (HB.out.cell (World.block_lt_of_cell? w _ hx146_1)).trans hx146_1; replace p146 := eq_true p146; replace q146 := eq_true q146; have p147 : 0 ≤ (x5_5 : Int) := of_decide_eq_true (by first | (with_reducible assumption) | assumption); have q147 : x5_5 < (l0.length : Int) := of_decide_eq_true (by first | (with_reducible assumption) | assumption); obtain ⟨ad147, e147, hx147_0, hx147_1⟩ := at_T24 HR0.out x5_5 p147 q147; obtain rfl : ad142 = ad147 := (by injection e147); replace hx147_0 := (HB.out.cell (World.block_lt_of_cell? w _ hx147_0)).trans hx147_0; replace hx147_1 := (HB.out.cell (World.block_lt_of_cell? w _ hx147_1)).trans hx147_1; replace p147 := eq_true p147; replace q147 := eq_true q147) | (go_at_call 41; (with_reducible refine (tallowref09_within.calls ((rd_T24 l0 x5_5).f0) ((rd_T24 l0 x5_5).f1) 1 (wrap64 (((rd_T24 l0 1).f1) + 1)) t148 _ A38.out).mono ?_); rintro e w40 ⟨rfl, hb⟩; have n0_ := Aside0.mk (below_step (by repeat (first | (with_reducible first | exact HB.out | apply below_alloc | apply pw_below_drewN | apply below_drew1) | exact HB.out)) hb); clear HB; have HB := n0_; clear n0_; (try clear hb); (try clear hb2); (try clear hk); (try clear hi))))
                       go_meet
                       case rel => exact ⟨_, (t148), (by first | rfl | (simp; done) | (simp [*]; done)), H', ⟨by have := HJ1.out; have := HK2.out; have := HJ15.out; have := HJ20.out; have := HK5.out; first | omega | exact Nat.le_refl _⟩, ⟨by repeat (first | (with_reducible first | exact HB.out | apply below_alloc | apply pw_below_drewN | apply below_drew1) | exact HB.out)⟩⟩
                     ·rw [if_neg c35] at H
                      exact absurd H (by simp)
                    ·rw [if_neg c34] at H
                     exact absurd H (by simp)
                   ·replace c32 := Bool.eq_false_iff.mpr c32
                    subst c32
                    have H1 : (tallowref09_Check.j5 k5 l0 ((rd_T24 l0 1).f1) x5_5 true) = some r := by rw [if_neg (show ¬ (false = true) by decide)] at H; exact H
                    clear H
                    have H := H1
                    clear H1
                    have H' := Aside0.mk H
                    clear H
                    have p144 : 0 ≤ (x5_5 : Int) := of_decide_eq_true (by first | (with_reducible assumption) | assumption)
                    have q144 : x5_5 < (l0.length : Int) := of_decide_eq_true (by first | (with_reducible assumption) | assumption)
                    obtain ⟨ad144, e144, hx144_0, hx144_1⟩ := at_T24 HR0.out x5_5 p144 q144
                    obtain rfl : ad142 = ad144 := (by injection e144)
                    replace hx144_0 := (HB.out.cell (World.block_lt_of_cell? w _ hx144_0)).trans hx144_0
                    replace hx144_1 := (HB.out.cell (World.block_lt_of_cell? w _ hx144_1)).trans hx144_1
                    replace p144 := eq_true p144
                    replace q144 := eq_true q144
                    go_wp2_with (first | (go_at_call 38; (with_reducible refine (tallowref02_Key.calls k5 ((rd_T24 l0 x5_5).f0) ((rd_T24 l0 x5_5).f1) false _ A31.out).mono ?_); rintro e w41 ⟨rfl, hb⟩; have n0_ := Aside0.mk (below_step (by repeat (first | (with_reducible first | exact HB.out | apply below_alloc | apply pw_below_drewN | apply below_drew1) | exact HB.out)) hb); clear HB; have HB := n0_; clear n0_; (try clear hb); (try clear hb2); (try clear hk); (try clear hi)))
                    repeat (go_quiet (first | (go_at_call 38; (with_reducible refine (tallowref02_Key.calls k5 ((rd_T24 l0 x5_5).f0) ((rd_T24 l0 x5_5).f1) false _ A31.out).mono ?_); rintro e w41 ⟨rfl, hb⟩; have n0_ := Aside0.mk (below_step (by repeat (first | (with_reducible first | exact HB.out | apply below_alloc | apply pw_below_drewN | apply below_drew1) | exact HB.out)) hb); clear HB; have HB := n0_; clear n0_; (try clear hb); (try clear hb2); (try clear hk); (try clear hi))); try go_wp2_with (first | (go_at_call 38; (with_reducible refine (tallowref02_Key.calls k5 ((rd_T24 l0 x5_5).f0) ((rd_T24 l0 x5_5).f1) false _ A31.out).mono ?_); rintro e w41 ⟨rfl, hb⟩; have n0_ := Aside0.mk (below_step (by repeat (first | (with_reducible first | exact HB.out | apply below_alloc | apply pw_below_drewN | apply below_drew1) | exact HB.out)) hb); clear HB; have HB := n0_; clear n0_; (try clear hb); (try clear hb2); (try clear hk); (try clear hi))))
                    go_meet
                    case rel => exact ⟨_, (true), (by first | rfl | (simp; done) | (simp [*]; done)), H', ⟨by have := HJ1.out; have := HK2.out; have := HJ15.out; have := HJ20.out; have := HK5.out; first | omega | exact Nat.le_refl _⟩, ⟨by repeat (first | (with_reducible first | exact HB.out | apply below_alloc | apply pw_below_drewN | apply below_drew1) | exact HB.out)⟩⟩
                  ·rw [if_neg c30] at H
                   exact absurd H (by simp)
                 case rest =>
                  clear HC29
                  try clear c1
                  try clear p1
                  try clear q1
                  try clear hx1
                  try clear qi1
                  try clear c2
                  try clear p2
                  try clear c3
                  try clear c3b0
                  try clear c3b1
                  try clear c4
                  try clear c4b0
                  try clear c4b1
                  try clear c5
                  try clear c5b0
                  try clear c5b1
                  try clear c6
                  try clear c6b0
                  try clear p6
                  try clear c7
                  try clear c8
                  try clear c8b0
                  try clear c9
                  try clear c9b0
                  try clear c11
                  try clear c12
                  try clear c12b0
                  try clear c12b1
                  try clear p13
                  try clear q13
                  try clear hx13
                  try clear qi13
                  try clear p14
                  try clear q14
                  try clear hx14
                  try clear qi14
                  try clear c17
                  try clear c17b0
                  try clear c17b1
                  try clear c18
                  try clear c18b0
                  try clear c18b1
                  try clear c19
                  try clear c20
                  try clear c20b0
                  try clear c20b1
                  try clear c22
                  try clear c22b0
                  try clear c22b1
                  try clear c23
                  try clear c23b0
                  try clear c25
                  try clear c25b0
                  try clear c26
                  try clear c26b0
                  try clear c27
                  try clear c28
                  try clear c28b0
                  try clear c30
                  try clear c30b0
                  try clear c32
                  try clear c34
                  try clear c34b0
                  try clear c35
                  try clear c35b0
                  try clear c36
                  try clear c36b0
                  try clear c36b1
                  try clear hx134_0
                  try clear hx134_1
                  try clear hx135_0
                  try clear hx135_1
                  try clear hx136_0
                  try clear hx136_1
                  try clear hx137_0
                  try clear hx137_1
                  try clear hx139_0
                  try clear hx139_1
                  try clear hx140_0
                  try clear hx140_1
                  try clear hx141_0
                  try clear hx141_1
                  try clear hx142_0
                  try clear hx142_1
                  try clear hx143_0
                  try clear hx143_1
                  try clear hx144_0
                  try clear hx144_1
                  try clear hx146_0
                  try clear hx146_1
                  try clear hx147_0
                  try clear hx147_1
                  try clear p1
                  try clear p13
                  try clear p134
                  try clear p135
                  try clear p136
                  try clear p137
                  try clear p139
                  try clear p14
                  try clear p140
                  try clear p141
                  try clear p142
                  try clear p143
                  try clear p144
                  try clear p146
                  try clear p147
                  try clear p2
                  try clear p6
                  try clear q1
                  try clear q13
                  try clear q134
                  try clear q135
                  try clear q136
                  try clear q137
                  try clear q139
                  try clear q14
                  try clear q140
                  try clear q141
                  try clear q142
                  try clear q143
                  try clear q144
                  try clear q146
                  try clear q147
                  obtain ⟨kq, x121_28, rfl, HA, HJ28, HB⟩ := hcut
                  cases kq with
                  | zero => exact absurd HA.out (by simp [tallowref09_Check.j5])
                  | succ kj28 =>
                   have H := HA.out
                   clear HA
                   simp only [tallowref09_Check.j5] at H
                   by_cases c42 : x121_28 = true
                   ·subst c42
                    have H1 : (some false) = some r := by rw [if_pos rfl] at H; exact H
                    clear H
                    have H := H1
                    clear H1
                    obtain rfl := Option.some.inj H
                    go_wp2
                    repeat (go_quiet (fail); try go_wp2)
                    go_ret
                    exact ⟨by first | rfl | (simp [errW_none, errW_some] <;> rfl) | (simp [*, errW_none, errW_some] <;> rfl), by repeat (first | (with_reducible first | exact HB.out | apply below_alloc | apply pw_below_drewN | apply below_drew1) | exact HB.out)⟩
                   ·replace c42 := Bool.eq_false_iff.mpr c42
                    subst c42
                    have H1 : (tallowref09_Check.l2 kj28 l0 ((rd_T24 l0 1).f1) x5_5 (wrap64 (x5_5 + 2))) = some r := by rw [if_neg (show ¬ (false = true) by decide)] at H; exact H
                    clear H
                    have H := H1
                    clear H1
                    have H' := Aside0.mk H
                    clear H
                    go_wp2
                    repeat (go_quiet (fail); try go_wp2)
                    go_loopg [6] kj28 (fun kq v6 w' => ∃ (x6_7 : Int), v6 = .int .i64 x6_7 ∧ Aside0 (tallowref09_Check.l2 kq l0 ((rd_T24 l0 1).f1) x5_5 x6_7 = some r) ∧ Aside0 (kq ≤ kj28) ∧ Aside0 (Below w.heap.size w w'))
                    case atStart => exact ⟨(wrap64 (x5_5 + 2)), (by first | rfl | (simp; done) | (simp [*]; done)), H', ⟨Nat.le_refl _⟩, ⟨by repeat (first | (with_reducible first | exact HB.out | apply below_alloc | apply pw_below_drewN | apply below_drew1) | exact HB.out)⟩⟩
                    case round =>
                     clear H'
                     try clear c1
                     try clear p1
                     try clear q1
                     try clear hx1
                     try clear qi1
                     try clear c2
                     try clear p2
                     try clear c3
                     try clear c3b0
                     try clear c3b1
                     try clear c4
                     try clear c4b0
                     try clear c4b1
                     try clear c5
                     try clear c5b0
                     try clear c5b1
                     try clear c6
                     try clear c6b0
                     try clear p6
                     try clear c7
                     try clear c8
                     try clear c8b0
                     try clear c9
                     try clear c9b0
                     try clear c11
                     try clear c12
                     try clear c12b0
                     try clear c12b1
                     try clear p13
                     try clear q13
                     try clear hx13
                     try clear qi13
                     try clear p14
                     try clear q14
                     try clear hx14
                     try clear qi14
                     try clear c17
                     try clear c17b0
                     try clear c17b1
                     try clear c18
                     try clear c18b0
                     try clear c18b1
                     try clear c19
                     try clear c20
                     try clear c20b0
                     try clear c20b1
                     try clear c22
                     try clear c22b0
                     try clear c22b1
                     try clear c23
                     try clear c23b0
                     try clear c25
                     try clear c25b0
                     try clear c26
                     try clear c26b0
                     try clear c27
                     try clear c28
                     try clear c28b0
                     try clear c30
                     try clear c30b0
                     try clear c32
                     try clear c34
                     try clear c34b0
                     try clear c35
                     try clear c35b0
                     try clear c36
                     try clear c36b0
                     try clear c36b1
                     try clear c42
                     try clear hx134_0
                     try clear hx134_1
                     try clear hx135_0
                     try clear hx135_1
                     try clear hx136_0
                     try clear hx136_1
                     try clear hx137_0
                     try clear hx137_1
                     try clear hx139_0
                     try clear hx139_1
                     try clear hx140_0
                     try clear hx140_1
                     try clear hx141_0
                     try clear hx141_1
                     try clear hx142_0
                     try clear hx142_1
                     try clear hx143_0
                     try clear hx143_1
                     try clear hx144_0
                     try clear hx144_1
                     try clear hx146_0
                     try clear hx146_1
                     try clear hx147_0
                     try clear hx147_1
                     try clear p1
                     try clear p13
                     try clear p134
                     try clear p135
                     try clear p136
                     try clear p137
                     try clear p139
                     try clear p14
                     try clear p140
                     try clear p141
                     try clear p142
                     try clear p143
                     try clear p144
                     try clear p146
                     try clear p147
                     try clear p2
                     try clear p6
                     try clear q1
                     try clear q13
                     try clear q134
                     try clear q135
                     try clear q136
                     try clear q137
                     try clear q139
                     try clear q14
                     try clear q140
                     try clear q141
                     try clear q142
                     try clear q143
                     try clear q144
                     try clear q146
                     try clear q147
                     obtain ⟨x6_7, rfl, HA, HK7, HB⟩ := hrel
                     cases gk with
                     | zero => exact absurd HA.out (by simp [tallowref09_Check.l2])
                     | succ k7 =>
                      have H := HA.out
                      clear HA
                      simp only [tallowref09_Check.l2] at H
                      by_cases c43 : x6_7 < (l0.length : Int)
                      ·rw [if_pos c43] at H
                       have c43b0 : decide (x6_7 < (l0.length : Int)) = true := decide_eq_true c43
                       clear c43
                       by_cases c44 : 0 ≤ x6_7
                       ·rw [if_pos c44] at H
                        have c44b0 : decide (0 ≤ x6_7) = true := decide_eq_true c44
                        clear c44
                        by_cases c45 : 0 ≤ x5_5
                        ·rw [if_pos c45] at H
                         have c45b0 : decide (0 ≤ x5_5) = true := decide_eq_true c45
                         clear c45
                         by_cases c46 : x5_5 < (l0.length : Int)
                         ·rw [if_pos c46] at H
                          have c46b0 : decide (x5_5 < (l0.length : Int)) = true := decide_eq_true c46
                          clear c46
                          by_cases c47 : (((rd_T24 l0 x6_7).f0) == ((rd_T24 l0 x5_5).f0) && (((rd_T24 l0 x6_7).f1) == ((rd_T24 l0 x5_5).f1))) = true
                          ·rw [if_pos c47] at H
                           have c47b0 : (((rd_T24 l0 x6_7).f0) == ((rd_T24 l0 x5_5).f0) && (((rd_T24 l0 x6_7).f1) == ((rd_T24 l0 x5_5).f1))) = true := c47
                           (try (have c47b1 : decide (((rd_T24 l0 x6_7).f0) = ((rd_T24 l0 x5_5).f0) && (((rd_T24 l0 x6_7).f1) == ((rd_T24 l0 x5_5).f1))) = true := by simpa using c47))
                           (try (have c47b2 : (((rd_T24 l0 x6_7).f0) == ((rd_T24 l0 x5_5).f0) && (((rd_T24 l0 x6_7).f1) == ((rd_T24 l0 x5_5).f1))) = true := by simpa using c47))
                           clear c47
                           obtain rfl := Option.some.inj H
                           have p149 : 0 ≤ (x6_7 : Int) := of_decide_eq_true (by first | (with_reducible assumption) | assumption)
                           have q149 : x6_7 < (l0.length : Int) := of_decide_eq_true (by first | (with_reducible assumption) | assumption)
                           obtain ⟨ad149, e149, hx149_0, hx149_1⟩ := at_T24 HR0.out x6_7 p149 q149
                           obtain rfl : ad142 = ad149 := (by injection e149)
                           replace hx149_0 := (HB.out.cell (World.block_lt_of_cell? w _ hx149_0)).trans hx149_0
                           replace hx149_1 := (HB.out.cell (World.block_lt_of_cell? w _ hx149_1)).trans hx149_1
                           replace p149 := eq_true p149
                           replace q149 := eq_true q149
                           have p150 : 0 ≤ (x5_5 : Int) := of_decide_eq_true (by first | (with_reducible assumption) | assumption)
                           have q150 : x5_5 < (l0.length : Int) := of_decide_eq_true (by first | (with_reducible assumption) | assumption)
                           obtain ⟨ad150, e150, hx150_0, hx150_1⟩ := at_T24 HR0.out x5_5 p150 q150
                           obtain rfl : ad142 = ad150 := (by injection e150)
                           replace hx150_0 := (HB.out.cell (World.block_lt_of_cell? w _ hx150_0)).trans hx150_0
                           replace hx150_1 := (HB.out.cell (World.block_lt_of_cell? w _ hx150_1)).trans hx150_1
                           replace p150 := eq_true p150
                           replace q150 := eq_true q150
                           go_wp2
                           repeat (go_quiet (fail); try go_wp2)
                           go_ret
                           exact ⟨by first | rfl | (simp [errW_none, errW_some] <;> rfl) | (simp [*, errW_none, errW_some] <;> rfl), by repeat (first | (with_reducible first | exact HB.out | apply below_alloc | apply pw_below_drewN | apply below_drew1) | exact HB.out)⟩
                          ·rw [if_neg c47] at H
                           have c47b0 : (((rd_T24 l0 x6_7).f0) == ((rd_T24 l0 x5_5).f0) && (((rd_T24 l0 x6_7).f1) == ((rd_T24 l0 x5_5).f1))) = false := by simpa using c47
                           (try (have c47b1 : decide (((rd_T24 l0 x6_7).f0) = ((rd_T24 l0 x5_5).f0) && (((rd_T24 l0 x6_7).f1) == ((rd_T24 l0 x5_5).f1))) = false := by simpa using c47))
                           (try (have c47b2 : (((rd_T24 l0 x6_7).f0) == ((rd_T24 l0 x5_5).f0) && (((rd_T24 l0 x6_7).f1) == ((rd_T24 l0 x5_5).f1))) = false := by simpa using c47))
                           (try (have c47b3 : ¬ (((rd_T24 l0 x6_7).f0) = ((rd_T24 l0 x5_5).f0) && (((rd_T24 l0 x6_7).f1) == ((rd_T24 l0 x5_5).f1))) := by simpa using c47))
                           clear c47
                           have H' := Aside0.mk H
                           clear H
                           have p149 : 0 ≤ (x6_7 : Int) := of_decide_eq_true (by first | (with_reducible assumption) | assumption)
                           have q149 : x6_7 < (l0.length : Int) := of_decide_eq_true (by first | (with_reducible assumption) | assumption)
                           obtain ⟨ad149, e149, hx149_0, hx149_1⟩ := at_T24 HR0.out x6_7 p149 q149
                           obtain rfl : ad142 = ad149 := (by injection e149)
                           replace hx149_0 := (HB.out.cell (World.block_lt_of_cell? w _ hx149_0)).trans hx149_0
                           replace hx149_1 := (HB.out.cell (World.block_lt_of_cell? w _ hx149_1)).trans hx149_1
                           replace p149 := eq_true p149
                           replace q149 := eq_true q149
                           have p150 : 0 ≤ (x5_5 : Int) := of_decide_eq_true (by first | (with_reducible assumption) | assumption)
                           have q150 : x5_5 < (l0.length : Int) := of_decide_eq_true (by first | (with_reducible assumption) | assumption)
                           obtain ⟨ad150, e150, hx150_0, hx150_1⟩ := at_T24 HR0.out x5_5 p150 q150
                           obtain rfl : ad142 = ad150 := (by injection e150)
                           replace hx150_0 := (HB.out.cell (World.block_lt_of_cell? w _ hx150_0)).trans hx150_0
                           replace hx150_1 := (HB.out.cell (World.block_lt_of_cell? w _ hx150_1)).trans hx150_1
                           replace p150 := eq_true p150
                           replace q150 := eq_true q150
                           go_wp2
                           repeat (go_quiet (fail); try go_wp2)
                           go_roundg k7
                           case measure => have := HJ1.out; have := HK2.out; have := HJ15.out; have := HJ20.out; have := HK5.out; have := HJ28.out; have := HK7.out; omega
                           case rel => exact ⟨(wrap64 (x6_7 + 2)), (by first | rfl | (simp; done) | (simp [*]; done)), H', ⟨by have := HJ1.out; have := HK2.out; have := HJ15.out; have := HJ20.out; have := HK5.out; have := HJ28.out; have := HK7.out; omega⟩, ⟨by repeat (first | (with_reducible first | exact HB.out | apply below_alloc | apply pw_below_drewN | apply below_drew1) | exact HB.out)⟩⟩
                         ·rw [if_neg c46] at H
                          exact absurd H (by simp)
                        ·rw [if_neg c45] at H
                         exact absurd H (by simp)
                       ·rw [if_neg c44] at H
                        exact absurd H (by simp)
                      ·rw [if_neg c43] at H
                       have c43b0 : decide (x6_7 < (l0.length : Int)) = false := decide_eq_false c43
                       clear c43
                       have H' := Aside0.mk H
                       clear H
                       go_wp2
                       repeat (go_quiet (fail); try go_wp2)
                       go_roundg k7
                       case measure => have := HJ1.out; have := HK2.out; have := HJ15.out; have := HJ20.out; have := HK5.out; have := HJ28.out; have := HK7.out; omega
                       case rel => exact ⟨(wrap64 (x5_5 + 2)), (by first | rfl | (simp; done) | (simp [*]; done)), H', ⟨by have := HJ1.out; have := HK2.out; have := HJ15.out; have := HJ20.out; have := HK5.out; have := HJ28.out; have := HK7.out; omega⟩, ⟨by repeat (first | (with_reducible first | exact HB.out | apply below_alloc | apply pw_below_drewN | apply below_drew1) | exact HB.out)⟩⟩
                ·rw [if_neg c28] at H
                 have c28b0 : decide (x5_5 < (l0.length : Int)) = false := decide_eq_false c28
                 clear c28
                 obtain rfl := Option.some.inj H
                 go_wp2
                 repeat (go_quiet (fail); try go_wp2)
                 go_ret
                 exact ⟨by first | rfl | (simp [errW_none, errW_some] <;> rfl) | (simp [*, errW_none, errW_some] <;> rfl), by repeat (first | (with_reducible first | exact HB.out | apply below_alloc | apply pw_below_drewN | apply below_drew1) | exact HB.out)⟩
          ·rw [if_neg c20] at H
           exact absurd H (by simp)
end Go.Proofs.YtadhkfklkbdabaaR.G
end
