import Derived.LaidMore
import Derived.LaidHandle
import Derived.Stop.Joined
import Derived.Lib.IfaceEq
import Derived.Lib.IndexMore
import Derived.Shelf.Abstract
import Derived.LaidEql
import Derived.Stop.Asserts
import Derived.RowKitTokens
import Derived.Lib.LaidTab
import Derived.Lib.AppendIntMem
import Derived.Stop.LaidErr
import Derived.WalkKit
import Derived.Deep.RegionLaw
import Derived.Deep.Cut
import Derived.WalkSpells
import Derived.Maps.OwnOps
import Derived.Maps.OwnSet
import Derived.Maps.Views
import Derived.Maps.RangeWalk
import Derived.Maps.Own
import Derived.Test.YtlbaejihlcfpeaaGreatDoorPReGxF57
import Derived.Test.YtlbaejihlcfpeaaGreatDoorPReGxF51
import Derived.Lib.Hide
set_option linter.unusedVariables false
set_option linter.unusedSimpArgs false
section
namespace Go.Proofs.YtlbaejihlcfpeaaGreatDoor.G
open Go.Shelf Go.Extern.Stop Go.Stop Go.Extern Go.RowKit Go.Proofs.YtlbaejihlcfpeaaGreatDoorW.PrintWords Go.Proofs.YtlbaejihlcfpeaaGreatDoorW.PrintLast Go.Proofs.YtlbaejihlcfpeaaGreatDoorW.PrintMore
set_option linter.unusedVariables false
set_option linter.unusedSimpArgs false
theorem w_id {x : Int} (h : -9223372036854775808 ≤ x ∧ x < 9223372036854775808) : wrap64 x = x := by unfold wrap64; omega
theorem xor_and (a b : Nat) : (a ^^^ b) + 2 * (a &&& b) = a + b := by
  induction a using Nat.strongRecOn generalizing b with
  | ind a ih =>
    by_cases h : a = 0
    · subst h; simp
    · have h1 := ih (a / 2) (by omega) (b / 2)
      have h2 : (a ^^^ b) / 2 = a / 2 ^^^ b / 2 := Nat.xor_div_two
      have h3 : (a &&& b) / 2 = a / 2 &&& b / 2 := Nat.and_div_two
      have h4 : (a ^^^ b) % 2 = (a % 2 + b % 2) % 2 := by
        have := Nat.xor_mod_two_eq_one (a := a) (b := b)
        rcases Nat.mod_two_eq_zero_or_one a with e | e <;> rcases Nat.mod_two_eq_zero_or_one b with e' | e' <;> rcases Nat.mod_two_eq_zero_or_one (a ^^^ b) with e'' | e'' <;> simp_all
      have h5 : (a &&& b) % 2 = (a % 2) * (b % 2) := by
        have := Nat.and_mod_two_eq_one (a := a) (b := b)
        rcases Nat.mod_two_eq_zero_or_one a with e | e <;> rcases Nat.mod_two_eq_zero_or_one b with e' | e' <;> rcases Nat.mod_two_eq_zero_or_one (a &&& b) with e'' | e'' <;> simp_all
      rcases Nat.mod_two_eq_zero_or_one a with e | e <;> rcases Nat.mod_two_eq_zero_or_one b with e' | e' <;> rw [e, e'] at h4 h5 <;> omega
theorem and_dvd (a b i : Nat) (h : b % 2 ^ i = 0) : (a &&& b) % 2 ^ i = 0 := by rw [Nat.and_mod_two_pow, h]; simp
def nb (a : Int) : Nat := (a % 18446744073709551616).toNat
theorem nb_ofInt (a : Int) : (BitVec.ofInt 64 a).toNat = nb a := by rw [BitVec.toNat_ofInt]; rfl
theorem nb_nat {n : Nat} (h : n < 2 ^ 64) : nb n = n := by unfold nb; omega
theorem u64_small {x : Int} (h : 0 ≤ x ∧ x < 18446744073709551616) : IntKind.u64.wrap x = x := by
  show x % 18446744073709551616 = x; omega
theorem u64_nb (a : Int) : IntKind.u64.wrap a = (nb a : Int) := by
  show a % 18446744073709551616 = _; unfold nb; omega
theorem Ev.eq {α : Type} {g : Nat → Option α} {r s : α} (h : Ev g r) (e : r = s) : Ev g s := e ▸ h
theorem bu_and {x y : Nat} (hx : x < 2 ^ 64) (hy : y < 2 ^ 64) : Go.bits .and .u64 (x : Int) (y : Int) = ((x &&& y : Nat) : Int) := by
  unfold Go.bits
  show IntKind.u64.wrap ((BitVec.ofInt 64 x &&& BitVec.ofInt 64 y).toNat : Int) = _
  rw [BitVec.toNat_and, nb_ofInt, nb_ofInt, nb_nat hx, nb_nat hy, u64_nb, nb_nat (Nat.lt_of_le_of_lt Nat.and_le_left hx)]
theorem bu_xor {x y : Nat} (hx : x < 2 ^ 64) (hy : y < 2 ^ 64) : Go.bits .xor .u64 (x : Int) (y : Int) = ((x ^^^ y : Nat) : Int) := by
  unfold Go.bits
  show IntKind.u64.wrap ((BitVec.ofInt 64 x ^^^ BitVec.ofInt 64 y).toNat : Int) = _
  rw [BitVec.toNat_xor, nb_ofInt, nb_ofInt, nb_nat hx, nb_nat hy, u64_nb, nb_nat (Nat.xor_lt_two_pow hx hy)]
theorem mod_carry {a b i : Nat} (h : b % 2 ^ i = 0) (h1 : i + 1 ≤ 64) : (2 * (a &&& b) % 2 ^ 64) % 2 ^ (i + 1) = 0 := by
  rw [Nat.mod_mod_of_dvd _ (Nat.pow_dvd_pow 2 h1)]
  have h2 := and_dvd a b i h
  obtain ⟨c, hc⟩ := Nat.dvd_of_mod_eq_zero h2
  rw [hc, show 2 * (2 ^ i * c) = 2 ^ (i + 1) * c from by rw [Nat.pow_succ]; ac_rfl]
  exact Nat.mul_mod_right _ _
theorem u64_two (x : Nat) : IntKind.u64.wrap ((x : Int) * 2) = ((2 * x % 2 ^ 64 : Nat) : Int) := by
  rw [u64_nb]; unfold nb; omega
theorem sum_ev : ∀ (d i a b : Nat), i + d = 64 → a < 2 ^ 64 → b < 2 ^ 64 → b % 2 ^ i = 0 → Ev (fun k => tallowref01_sum.l0 k a b) (((a + b) % 2 ^ 64 : Nat) : Int)
  | 0, i, a, b, hi, ha, hb, h => by
    obtain rfl : i = 64 := by omega
    rw [Nat.mod_eq_of_lt hb] at h
    subst h
    rw [Nat.add_zero, Nat.mod_eq_of_lt ha]
    exact Ev.step (f := fun _ => some (a : Int)) (fun k => by rw [tallowref01_sum.l0, if_pos (show ((0 : Nat) : Int) = 0 from rfl)]) (Ev.now _)
  | d + 1, i, a, b, hi, ha, hb, h => by
    by_cases h0 : b = 0
    · subst h0
      rw [Nat.add_zero, Nat.mod_eq_of_lt ha]
      exact Ev.step (f := fun _ => some (a : Int)) (fun k => by rw [tallowref01_sum.l0, if_pos (show ((0 : Nat) : Int) = 0 from rfl)]) (Ev.now _)
    · refine Ev.step (f := fun k => tallowref01_sum.l0 k ((a ^^^ b : Nat) : Int) ((2 * (a &&& b) % 2 ^ 64 : Nat) : Int)) (fun k => ?_) ?_
      · rw [tallowref01_sum.l0, if_neg (by omega), bu_xor ha hb, bu_and ha hb, u64_two]
      · refine Ev.eq (sum_ev d (i + 1) _ _ (by omega) (Nat.xor_lt_two_pow ha hb) (Nat.mod_lt _ (by decide)) (mod_carry h (by omega))) ?_
        rw [Nat.add_mod_mod, xor_and]
theorem sum_of {a b : Nat} (ha : a < 2 ^ 64) (hb : b < 2 ^ 64) : Ev (fun k => tallowref01_sum.f k a b) (((a + b) % 2 ^ 64 : Nat) : Int) := sum_ev 64 0 a b rfl ha hb (Nat.mod_one b)
theorem b_not' {x : Nat} (h : x < 2 ^ 64) : (2 ^ 64 - 1) ^^^ x = 2 ^ 64 - 1 - x := by
  have h1 := xor_and x (2 ^ 64 - 1)
  rw [Nat.and_two_pow_sub_one_of_lt_two_pow h, Nat.xor_comm] at h1
  omega
theorem umax : IntKind.u64.max = ((2 ^ 64 - 1 : Nat) : Int) := rfl
theorem less0_of {a : Nat} (ha : a < 2 ^ 64) : Ev (fun k => tallowref01_less0.f k a) (((2 ^ 64 - a) % 2 ^ 64 : Nat) : Int) := by
  have e : ∀ k, tallowref01_less0.f k a = tallowref01_sum.f k ((2 ^ 64 - 1 - a : Nat) : Int) ((1 : Nat) : Int) := fun k => by
    unfold tallowref01_less0.f
    rw [umax, bu_xor (by decide) ha, b_not' ha]; rfl
  refine Ev.congr e (Ev.eq (sum_of (by omega) (by decide)) ?_)
  congr 2; omega
end Go.Proofs.YtlbaejihlcfpeaaGreatDoor.G
end
