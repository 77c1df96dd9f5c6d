import Derived.Shelf.Abstract
import Derived.LaidEql
import Derived.Stop.Asserts
import Derived.RowKitTokens
import Derived.Lib.LaidTab
import Derived.Lib.AppendIntMem
import Derived.Test.YtilmmmpbcgobaaaDoorPDoZR
import Derived.Test.YtilmmmpbcgobaaaDoorPDoGxF28
import Derived.Test.YtilmmmpbcgobaaaDoorPDoGxF49
import Derived.Test.YtilmmmpbcgobaaaDoorPDoGxF29
import Derived.Lib.Hide
set_option linter.unusedVariables false
set_option linter.unusedSimpArgs false
section
namespace Go.Proofs.YtilmmmpbcgobaaaDoor.G
open Go.Shelf Go.Extern.Stop Go.Stop Go.Extern Go.RowKit Go.Proofs.YtilmmmpbcgobaaaDoorW.PrintWords Go.Proofs.YtilmmmpbcgobaaaDoorW.PrintLast Go.Proofs.YtilmmmpbcgobaaaDoorW.PrintMore
set_option linter.unusedVariables false
set_option linter.unusedSimpArgs false
theorem mul_bits (a b : Nat) : ∀ k, a * (b % 2 ^ (k + 1)) = a * (b % 2 ^ k) + (if b / 2 ^ k % 2 = 1 then a * 2 ^ k else 0) := by
  intro k
  rw [Nat.pow_succ, Nat.mod_mul, Nat.mul_add]
  congr 1
  rcases Nat.mod_two_eq_zero_or_one (b / 2 ^ k) with h | h <;> rw [h] <;> simp
def partsN (a b : Nat) : Nat → Nat → Nat → Nat × Nat
  | 0, q, r => (q, r)
  | k + 1, q, r =>
    let h := r / 2 ^ 63
    let r1 := (r * 2 % 2 ^ 64) ||| (a / 2 ^ k &&& 1)
    if h = 1 ∨ b ≤ r1 then partsN a b k (q ||| 2 ^ k) ((r1 + 2 ^ 64 - b) % 2 ^ 64) else partsN a b k q r1
theorem or_bit (x c : Nat) (h : c < 2) : 2 * x ||| c = 2 * x + c := by
  have := Nat.two_pow_add_eq_or_of_lt (i := 1) (b := c) (by simpa using h) x
  simpa using this.symm
theorem or_pow (q k : Nat) : q * 2 ^ (k + 1) ||| 2 ^ k = (2 * q + 1) * 2 ^ k := by
  have := Nat.two_pow_add_eq_or_of_lt (i := k + 1) (b := 2 ^ k) (by rw [Nat.pow_succ]; have : 0 < 2 ^ k := Nat.pow_pos (by decide); omega) q
  rw [Nat.mul_comm q, ← this, Nat.pow_succ, Nat.add_mul, Nat.one_mul]; congr 1; ac_rfl
theorem partsN_eq (a b : Nat) (ha : a < 2 ^ 64) (hb0 : 0 < b) (hb : b < 2 ^ 64) : ∀ (k q r : Nat), k ≤ 64 → r < b → a / 2 ^ k = q * b + r → partsN a b k (q * 2 ^ k) r = (a / b, a % b)
  | 0, q, r, _, hr, h => by
    unfold partsN
    rw [Nat.pow_zero, Nat.div_one] at h
    rw [h, Nat.pow_zero, Nat.mul_one]
    have h1 : (q * b + r) / b = q := by rw [Nat.mul_comm, Nat.mul_add_div hb0, Nat.div_eq_of_lt hr]; omega
    have h2 : (q * b + r) % b = r := by rw [Nat.mul_comm, Nat.mul_add_mod, Nat.mod_eq_of_lt hr]
    rw [h1, h2]
  | k + 1, q, r, hk, hr, h => by
    have hp : 0 < 2 ^ k := Nat.pow_pos (by decide)
    have h1 : a / 2 ^ k = 2 * (a / 2 ^ (k + 1)) + a / 2 ^ k % 2 := by rw [Nat.pow_succ, ← Nat.div_div_eq_div_mul]; omega
    have hc : a / 2 ^ k % 2 < 2 := Nat.mod_lt _ (by decide)
    unfold partsN
    rw [Nat.and_one_is_mod]
    generalize a / 2 ^ k % 2 = c at *
    rw [h] at h1
    have e1 : (r * 2 % 2 ^ 64) ||| c = r * 2 % 2 ^ 64 + c := by
      have : r * 2 % 2 ^ 64 = 2 * (r % 2 ^ 63) := by omega
      rw [this, or_bit _ _ hc]
    simp only [e1]
    have hq2 : q * 2 ^ (k + 1) = (2 * q) * 2 ^ k := by rw [Nat.pow_succ]; ac_rfl
    by_cases ht : r / 2 ^ 63 = 1 ∨ b ≤ r * 2 % 2 ^ 64 + c
    · rw [if_pos ht, or_pow]
      have e2 : (r * 2 % 2 ^ 64 + c + 2 ^ 64 - b) % 2 ^ 64 = 2 * r + c - b := by omega
      rw [e2]
      refine partsN_eq a b ha hb0 hb k _ _ (by omega) (by omega) ?_
      rw [h1, Nat.add_mul, Nat.mul_add, Nat.mul_assoc]
      generalize q * b = z at *
      omega
    · rw [if_neg ht, hq2]
      have e2 : r * 2 % 2 ^ 64 + c = 2 * r + c := by omega
      rw [e2]
      refine partsN_eq a b ha hb0 hb k _ _ (by omega) (by omega) ?_
      rw [h1, Nat.mul_add, Nat.mul_assoc]; omega
theorem shl_i64 (a x : Int) : shl .i64 a x = wrap64 (a * 2 ^ min x.toNat 64) := by unfold shl; rw [i64_w]; rfl
theorem shr_u64 (a x : Int) : shr .u64 a x = a / 2 ^ min x.toNat 64 := rfl
theorem shl_u64 (x i : Nat) (hi : i < 64) : shl .u64 (x : Int) (i : Int) = ((x * 2 ^ i % 2 ^ 64 : Nat) : Int) := by
  unfold shl
  have e : min (i : Int).toNat IntKind.u64.bits = i := by
    show min (i : Int).toNat 64 = i
    rw [Int.toNat_natCast, Nat.min_eq_left (Nat.le_of_lt hi)]
  rw [e, u64_nb]
  congr 1
theorem shr_nat (x i : Nat) (hi : i < 64) : shr .u64 (x : Int) (i : Int) = ((x / 2 ^ i : Nat) : Int) := by
  rw [shr_u64, Int.toNat_natCast, Nat.min_eq_left (Nat.le_of_lt hi), Int.natCast_ediv, Int.natCast_pow]; try rfl
theorem bit_of (y i : Nat) (hy : y < 2 ^ 64) (hi : i < 64) : Go.bits .and .u64 (shr .u64 (y : Int) (i : Int)) 1 = ((y / 2 ^ i % 2 : Nat) : Int) := by
  have h : y / 2 ^ i < 2 ^ 64 := Nat.lt_of_le_of_lt (Nat.div_le_self _ _) hy
  rw [shr_nat y i hi, show (1 : Int) = ((1 : Nat) : Int) from rfl, bu_and h (by decide), Nat.and_one_is_mod]
theorem product_ev (x y : Nat) (hx : x < 2 ^ 64) (hy : y < 2 ^ 64) : ∀ (d i : Nat), i + d = 64 → Ev (fun k => tallowref01_product.l0 k x y ((x * (y % 2 ^ i) % 2 ^ 64 : Nat) : Int) i) ((x * y % 2 ^ 64 : Nat) : Int)
  | 0, i, hi => by
    obtain rfl : i = 64 := by omega
    refine Ev.step (f := fun _ => some ((x * y % 2 ^ 64 : Nat) : Int)) (fun k => ?_) (Ev.now _)
    rw [tallowref01_product.l0, if_neg (by decide), Nat.mod_eq_of_lt hy]
  | d + 1, i, hi => by
    have hi64 : i < 64 := by omega
    have hw : wrap64 ((i : Int) + 1) = ((i + 1 : Nat) : Int) := by rw [w_id (by omega)]; rfl
    have hm := mul_bits x y i
    have ih := product_ev x y hx hy d (i + 1) (by omega)
    by_cases hb : y / 2 ^ i % 2 = 1
    · rw [if_pos hb] at hm
      refine Ev.step (f := fun k => (tallowref01_sum.f k ((x * (y % 2 ^ i) % 2 ^ 64 : Nat) : Int) ((x * 2 ^ i % 2 ^ 64 : Nat) : Int)).bind fun t101 => tallowref01_product.l0 k x y t101 ((i + 1 : Nat) : Int)) (fun k => ?_) ?_
      · rw [tallowref01_product.l0, if_pos (by omega), if_pos (by omega), bit_of y i hy hi64, if_pos (by omega), shl_u64 x i hi64, hw]
      · refine Ev.bind (f := fun k t101 => tallowref01_product.l0 k x y t101 ((i + 1 : Nat) : Int)) (sum_of (Nat.mod_lt _ (by decide)) (Nat.mod_lt _ (by decide))) ?_
        rw [← Nat.add_mod, ← hm]
        exact ih
    · rw [if_neg hb, Nat.add_zero] at hm
      rw [hm] at ih
      refine Ev.step (f := fun k => tallowref01_product.l0 k x y ((x * (y % 2 ^ i) % 2 ^ 64 : Nat) : Int) ((i + 1 : Nat) : Int)) (fun k => ?_) ih
      rw [tallowref01_product.l0, if_pos (by omega), if_pos (by omega), bit_of y i hy hi64, if_neg (by omega), hw]
theorem product_of {x y : Nat} (hx : x < 2 ^ 64) (hy : y < 2 ^ 64) : Ev (fun k => tallowref01_product.f k x y) ((x * y % 2 ^ 64 : Nat) : Int) := by
  have := product_ev x y hx hy 64 0 rfl
  rw [Nat.pow_zero, Nat.mod_one, Nat.mul_zero] at this
  exact this
theorem shl_one (i : Nat) (hi : i < 64) : shl .u64 1 (i : Int) = ((2 ^ i : Nat) : Int) := by
  rw [show (1 : Int) = ((1 : Nat) : Int) from rfl, shl_u64 1 i hi, Nat.one_mul, Nat.mod_eq_of_lt (Nat.pow_lt_pow_right (by decide) hi)]
theorem partsR_ev (a b : Nat) (ha : a < 2 ^ 64) (hb : b < 2 ^ 64) : ∀ (i q r : Nat), i ≤ 64 → q < 2 ^ 64 → r < 2 ^ 64 → Ev (fun k => tallowref01_parts.l0 k a b q r ((i : Int) - 1)) (((partsN a b i q r).1 : Int), ((partsN a b i q r).2 : Int))
  | 0, q, r, _, _, _ => Ev.step (f := fun _ => some ((q : Int), (r : Int))) (fun k => by rw [tallowref01_parts.l0, if_neg (by omega)]) (Ev.now _)
  | i + 1, q, r, hi, hq, hr => by
    have hi64 : i < 64 := by omega
    have hp : 2 ^ i < 2 ^ 64 := Nat.pow_lt_pow_right (by decide) hi64
    have e0 : (((i + 1 : Nat) : Int) - 1) = (i : Int) := by omega
    have ew : wrap64 ((i : Int) - 1) = (i : Int) - 1 := w_id (by omega)
    have hbit : a / 2 ^ i &&& 1 < 2 ^ 64 := Nat.lt_of_le_of_lt Nat.and_le_right (by decide)
    have e1 : IntKind.u64.wrap ((r : Int) * 2) = ((r * 2 % 2 ^ 64 : Nat) : Int) := by rw [u64_nb]; unfold nb; omega
    have e2 : Go.bits .and .u64 (shr .u64 (a : Int) (i : Int)) 1 = ((a / 2 ^ i &&& 1 : Nat) : Int) := by rw [bit_of a i ha hi64, Nat.and_one_is_mod]
    have e3 : Go.bits .or .u64 (IntKind.u64.wrap ((r : Int) * 2)) (Go.bits .and .u64 (shr .u64 (a : Int) (i : Int)) 1) = (((r * 2 % 2 ^ 64) ||| (a / 2 ^ i &&& 1) : Nat) : Int) := by
      rw [e1, e2, bu_or (Nat.mod_lt _ (by decide)) hbit]
    have hr1 : ((r * 2 % 2 ^ 64) ||| (a / 2 ^ i &&& 1)) < 2 ^ 64 := Nat.or_lt_two_pow (Nat.mod_lt _ (by decide)) hbit
    have e4 : Go.bits .or .u64 (q : Int) (shl .u64 1 (i : Int)) = ((q ||| 2 ^ i : Nat) : Int) := by rw [shl_one i hi64, bu_or hq hp]
    rw [e0]
    have e5 : partsN a b (i + 1) q r = if r / 2 ^ 63 = 1 ∨ b ≤ ((r * 2 % 2 ^ 64) ||| (a / 2 ^ i &&& 1)) then partsN a b i (q ||| 2 ^ i) ((((r * 2 % 2 ^ 64) ||| (a / 2 ^ i &&& 1)) + 2 ^ 64 - b) % 2 ^ 64) else partsN a b i q ((r * 2 % 2 ^ 64) ||| (a / 2 ^ i &&& 1)) := rfl
    rw [e5]
    generalize hR : ((r * 2 % 2 ^ 64) ||| (a / 2 ^ i &&& 1)) = R at *
    have e6 : IntKind.u64.wrap ((R : Int) - (b : Int)) = (((R + 2 ^ 64 - b) % 2 ^ 64 : Nat) : Int) := by rw [u64_nb]; unfold nb; omega
    have hR2 : (R + 2 ^ 64 - b) % 2 ^ 64 < 2 ^ 64 := Nat.mod_lt _ (by decide)
    have hq2 : (q ||| 2 ^ i) < 2 ^ 64 := Nat.or_lt_two_pow hq hp
    clear e1 e2 hbit
    by_cases h1 : r / 2 ^ 63 = 1
    · rw [if_pos (.inl h1)]
      refine Ev.step (f := fun k => tallowref01_parts.l0 k a b ((q ||| 2 ^ i : Nat) : Int) (((R + 2 ^ 64 - b) % 2 ^ 64 : Nat) : Int) ((i : Int) - 1)) (fun k => ?_) (partsR_ev a b ha hb i _ _ (by omega) hq2 hR2)
      rw [tallowref01_parts.l0, if_pos (by omega), if_pos (by omega), if_pos (by omega), e3, e4, e6, ew]
    · by_cases h2 : b ≤ R
      · rw [if_pos (.inr h2)]
        refine Ev.step (f := fun k => tallowref01_parts.l0 k a b ((q ||| 2 ^ i : Nat) : Int) (((R + 2 ^ 64 - b) % 2 ^ 64 : Nat) : Int) ((i : Int) - 1)) (fun k => ?_) (partsR_ev a b ha hb i _ _ (by omega) hq2 hR2)
        rw [tallowref01_parts.l0, if_pos (by omega), if_pos (by omega), if_neg (by omega), e3, if_pos (by omega), e4, e6, ew]
      · rw [if_neg (by rintro (h | h) <;> omega)]
        refine Ev.step (f := fun k => tallowref01_parts.l0 k a b q R ((i : Int) - 1)) (fun k => ?_) (partsR_ev a b ha hb i _ _ (by omega) hq hr1)
        rw [tallowref01_parts.l0, if_pos (by omega), if_pos (by omega), if_neg (by omega), e3, if_neg (by omega), ew]
theorem partsR_of {a b : Nat} (ha : a < 2 ^ 64) (hb0 : 0 < b) (hb : b < 2 ^ 64) : Ev (fun k => tallowref01_parts.f k a b) (((a / b : Nat) : Int), ((a % b : Nat) : Int)) := by
  have h1 := partsN_eq a b ha hb0 hb 64 0 0 (by decide) hb0 (by rw [Nat.div_eq_of_lt ha]; omega)
  rw [Nat.zero_mul] at h1
  have h2 := partsR_ev a b ha hb 64 0 0 (by decide) (by decide) (by decide)
  rw [h1] at h2
  exact h2
end Go.Proofs.YtilmmmpbcgobaaaDoor.G
end
