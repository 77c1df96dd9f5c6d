import Derived.Shelf.Abstract
import Derived.LaidEql
import Derived.Stop.Asserts
import Derived.RowKitTokens
import Derived.Lib.LaidTab
import Derived.Lib.AppendIntMem
import Derived.Test.YtilmmmpbcgobaaaDoorPDoZDv
import Derived.Test.YtilmmmpbcgobaaaDoorPDoZP
import Derived.Test.YtilmmmpbcgobaaaDoorPDoGxF30
import Derived.Lib.Hide
set_option linter.unusedVariables false
set_option linter.unusedSimpArgs false
section
namespace Go.Proofs.YtilmmmpbcgobaaaDoor.G
open Go.Shelf Go.Extern.Stop Go.Stop Go.Extern Go.RowKit Go.Proofs.YtilmmmpbcgobaaaDoorW.PrintWords Go.Proofs.YtilmmmpbcgobaaaDoorW.PrintLast Go.Proofs.YtilmmmpbcgobaaaDoorW.PrintMore
set_option linter.unusedVariables false
set_option linter.unusedSimpArgs false
def quoF (a b : Int) : Int := if 0 < b then a / b else (-a) / (-b)
theorem quo_unique {a b Q r : Int} (h : a = b * Q + r) (hr : (0 < b ∧ 0 ≤ r ∧ r < b) ∨ (b < 0 ∧ b < r ∧ r ≤ 0)) : Q = quoF a b := by
  unfold quoF
  rcases hr with ⟨h1, h2, h3⟩ | ⟨h1, h2, h3⟩
  · rw [if_pos h1]
    exact ((Int.ediv_emod_unique h1).2 ⟨by omega, h2, h3⟩).1.symm
  · rw [if_neg (by omega)]
    have e : (-b) * Q = -(b * Q) := Int.neg_mul b Q
    exact ((Int.ediv_emod_unique (r := -r) (by omega : 0 < -b)).2 ⟨by omega, by omega, by omega⟩).1.symm
theorem quotient_ev {a b : Int} (ha : -9223372036854775808 ≤ a ∧ a < 9223372036854775808) (hb : -9223372036854775808 ≤ b ∧ b < 9223372036854775808) (h : b ≠ 0) :
    Ev (fun k => tallowref01_quotient.f k a b) (wrap64 (quoF a b)) := by
  have hA : a.natAbs < 2 ^ 64 := by omega
  have hB : b.natAbs < 2 ^ 64 := by omega
  have hB0 : 0 < b.natAbs := by omega
  refine Ev.bind (f := fun k t108 => ((tallowref01_size.f k b).bind fun t109 => ((tallowref01_parts.f k t108 t109).bind fun bt110 => (if ((decide (a < 0)) == (decide (b < 0))) = true then (some (wrap64 (bt110.1))) else (if bt110.2 > 0 then ((tallowref01_less0.f k (IntKind.u64.wrap (bt110.1 + 1))).bind fun t112 => (some (wrap64 (t112)))) else ((tallowref01_less0.f k bt110.1).bind fun t113 => (some (wrap64 (t113))))))))) (size_of ha) ?_
  refine Ev.bind (f := fun k t109 => ((tallowref01_parts.f k ((a.natAbs : Nat) : Int) t109).bind fun bt110 => (if ((decide (a < 0)) == (decide (b < 0))) = true then (some (wrap64 (bt110.1))) else (if bt110.2 > 0 then ((tallowref01_less0.f k (IntKind.u64.wrap (bt110.1 + 1))).bind fun t112 => (some (wrap64 (t112)))) else ((tallowref01_less0.f k bt110.1).bind fun t113 => (some (wrap64 (t113)))))))) (size_of hb) ?_
  refine Ev.bind (f := fun k bt110 => (if ((decide (a < 0)) == (decide (b < 0))) = true then (some (wrap64 (bt110.1))) else (if bt110.2 > 0 then ((tallowref01_less0.f k (IntKind.u64.wrap (bt110.1 + 1))).bind fun t112 => (some (wrap64 (t112)))) else ((tallowref01_less0.f k bt110.1).bind fun t113 => (some (wrap64 (t113))))))) (partsR_of hA hB0 hB) ?_
  have hdm := Nat.div_add_mod a.natAbs b.natAbs
  have hlt := Nat.mod_lt a.natAbs hB0
  have hle : a.natAbs / b.natAbs ≤ a.natAbs := Nat.div_le_self _ _
  have hmul : ((b.natAbs : Nat) : Int) * ((a.natAbs / b.natAbs : Nat) : Int) = ((b.natAbs * (a.natAbs / b.natAbs) : Nat) : Int) := (Int.natCast_mul _ _).symm
  generalize hq : a.natAbs / b.natAbs = q at *
  generalize hr : a.natAbs % b.natAbs = r at *
  generalize hz : b.natAbs * q = z at *
  have hbq : b * (q : Int) = (if 0 < b then (z : Int) else -(z : Int)) := by
    by_cases h0 : 0 < b
    · rw [if_pos h0, ← hmul, show ((b.natAbs : Nat) : Int) = b from by omega]
    · rw [if_neg h0, ← hmul, show ((b.natAbs : Nat) : Int) = -b from by omega, Int.neg_mul, Int.neg_neg]
  by_cases hs : ((decide (a < 0)) == (decide (b < 0))) = true
  · refine Ev.congr (f := fun _ => some (wrap64 (q : Int))) (fun k => by rw [if_pos hs]) (Ev.eq (Ev.now _) ?_)
    congr 1
    refine quo_unique (r := if 0 < b then (r : Int) else -(r : Int)) ?_ ?_
    · rw [hbq]
      rw [beq_iff_eq, decide_eq_decide] at hs
      split <;> omega
    · split <;> omega
  · have hs2 : ¬ ((a < 0) ↔ (b < 0)) := fun e => hs (by rw [beq_iff_eq, decide_eq_decide]; exact e)
    by_cases h0 : r > 0
    · have e1 : IntKind.u64.wrap ((q : Int) + 1) = ((q + 1 : Nat) : Int) := by rw [u64_small (by omega)]; rfl
      refine Ev.congr (f := fun k => (tallowref01_less0.f k ((q + 1 : Nat) : Int)).bind fun t112 => (some (wrap64 (t112)))) (fun k => by rw [if_neg hs, if_pos (by show ((r : Nat) : Int) > 0; omega)]; show ((tallowref01_less0.f k (IntKind.u64.wrap ((q : Int) + 1))).bind _) = _; rw [e1]) ?_
      refine Ev.bind (f := fun _ t112 => some (wrap64 t112)) (less0_of (by omega)) (Ev.eq (Ev.now _) ?_)
      have hQ : (-(q : Int) - 1) = quoF a b := by
        refine quo_unique (r := if 0 < b then b - (r : Int) else b + (r : Int)) ?_ ?_
        · rw [Int.mul_sub, Int.mul_one, Int.mul_neg, hbq]; split <;> omega
        · split <;> omega
      rw [← hQ]
      unfold wrap64
      omega
    · refine Ev.congr (f := fun k => (tallowref01_less0.f k (q : Int)).bind fun t113 => (some (wrap64 (t113)))) (fun k => by rw [if_neg hs, if_neg (by show ¬ ((r : Nat) : Int) > 0; omega)]) ?_
      refine Ev.bind (f := fun _ t113 => some (wrap64 t113)) (less0_of (by omega)) (Ev.eq (Ev.now _) ?_)
      have hQ : (-(q : Int)) = quoF a b := by
        refine quo_unique (r := 0) ?_ ?_
        · rw [Int.mul_neg, hbq]; split <;> omega
        · omega
      rw [← hQ]
      unfold wrap64
      omega
def upV (a : Int) (n : Nat) : Int := wrap64 (a * 2 ^ n)
def downV (a : Int) (n : Nat) : Int := wrap64 ((nb a / 2 ^ n : Nat) : Int)
theorem upR_ev (a n : Int) (m : Nat) (hm : mn n 64 = m) : ∀ (d i : Nat), i + d = m → Ev (fun k => tallowref01_up.l0 k (upV a i) n i) (upV a m)
  | 0, i, hi => by
    obtain rfl : i = m := by omega
    exact Ev.step (f := fun _ => some (upV a i)) (fun k => by rw [tallowref01_up.l0, hm, if_neg (by omega)]) (Ev.now _)
  | d + 1, i, hi => by
    have hm64 : m ≤ 64 := by have : mn n 64 ≤ 64 := by unfold mn; split <;> omega
                             omega
    refine Ev.step (f := fun k => tallowref01_up.l0 k (upV a (i + 1)) n ((i + 1 : Nat) : Int)) (fun k => ?_) (upR_ev a n m hm d (i + 1) (by omega))
    rw [tallowref01_up.l0, hm, if_pos (by omega), w_id (x := (i : Int) + 1) (by omega)]
    have e : wrap64 (IntKind.u64.wrap (IntKind.u64.wrap (upV a i) * 2)) = upV a (i + 1) := by
      rw [u64_nb, u64_nb, w_nb]
      unfold upV
      rw [nb_w, Int.pow_succ, ← Int.mul_assoc]
      obtain ⟨z, hz⟩ : ∃ z, a * 2 ^ i = z := ⟨_, rfl⟩
      rw [hz]
      unfold nb wrap64
      omega
    rw [e]
    rfl
theorem downR_ev (a n : Int) (m : Nat) (hm : mn n 64 = m) : ∀ (d i : Nat), i + d = m → Ev (fun k => tallowref01_down.l0 k (downV a i) n i) (downV a m)
  | 0, i, hi => by
    obtain rfl : i = m := by omega
    exact Ev.step (f := fun _ => some (downV a i)) (fun k => by rw [tallowref01_down.l0, hm, if_neg (by omega)]) (Ev.now _)
  | d + 1, i, hi => by
    have hm64 : m ≤ 64 := by have : mn n 64 ≤ 64 := by unfold mn; split <;> omega
                             omega
    refine Ev.step (f := fun k => tallowref01_down.l0 k (downV a (i + 1)) n ((i + 1 : Nat) : Int)) (fun k => ?_) (downR_ev a n m hm d (i + 1) (by omega))
    rw [tallowref01_down.l0, hm, if_pos (by omega), w_id (x := (i : Int) + 1) (by omega)]
    have e : wrap64 (IntKind.u64.wrap (downV a i) / 2) = downV a (i + 1) := by
      unfold downV
      have hl : nb a / 2 ^ i < 2 ^ 64 := Nat.lt_of_le_of_lt (Nat.div_le_self _ _) (nb_lt a)
      rw [u64_nb, nb_w, nb_nat hl, Nat.pow_succ, ← Nat.div_div_eq_div_mul]
      congr 1
    rw [e]
    rfl
end Go.Proofs.YtilmmmpbcgobaaaDoor.G
end
