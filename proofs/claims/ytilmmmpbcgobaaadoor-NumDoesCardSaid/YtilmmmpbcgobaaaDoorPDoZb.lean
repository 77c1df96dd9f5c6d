import Derived.Shelf.Abstract
import Derived.LaidEql
import Derived.Stop.Asserts
import Derived.RowKitTokens
import Derived.Lib.LaidTab
import Derived.Lib.AppendIntMem
import Derived.Test.YtilmmmpbcgobaaaDoorPDoZ0
import Derived.Lib.Hide
set_option linter.unusedVariables false
set_option linter.unusedSimpArgs false
section
namespace Go.Proofs.YtilmmmpbcgobaaaDoor.G
open Go.Shelf Go.Extern.Stop Go.Stop Go.Extern Go.RowKit Go.Proofs.YtilmmmpbcgobaaaDoorW.PrintWords Go.Proofs.YtilmmmpbcgobaaaDoorW.PrintLast Go.Proofs.YtilmmmpbcgobaaaDoorW.PrintMore
set_option linter.unusedVariables false
set_option linter.unusedSimpArgs false
theorem xor_and (a b : Nat) : (a ^^^ b) + 2 * (a &&& b) = a + b := by
  induction a using Nat.strongRecOn generalizing b with
  | ind a ih =>
    by_cases h : a = 0
    · subst h; simp
    · have h1 := ih (a / 2) (by omega) (b / 2)
      have h2 : (a ^^^ b) / 2 = a / 2 ^^^ b / 2 := Nat.xor_div_two
      have h3 : (a &&& b) / 2 = a / 2 &&& b / 2 := Nat.and_div_two
      have h4 : (a ^^^ b) % 2 = (a % 2 + b % 2) % 2 := by
        have := Nat.xor_mod_two_eq_one (a := a) (b := b)
        rcases Nat.mod_two_eq_zero_or_one a with e | e <;> rcases Nat.mod_two_eq_zero_or_one b with e' | e' <;> rcases Nat.mod_two_eq_zero_or_one (a ^^^ b) with e'' | e'' <;> simp_all
      have h5 : (a &&& b) % 2 = (a % 2) * (b % 2) := by
        have := Nat.and_mod_two_eq_one (a := a) (b := b)
        rcases Nat.mod_two_eq_zero_or_one a with e | e <;> rcases Nat.mod_two_eq_zero_or_one b with e' | e' <;> rcases Nat.mod_two_eq_zero_or_one (a &&& b) with e'' | e'' <;> simp_all
      rcases Nat.mod_two_eq_zero_or_one a with e | e <;> rcases Nat.mod_two_eq_zero_or_one b with e' | e' <;> rw [e, e'] at h4 h5 <;> omega
theorem and_dvd (a b i : Nat) (h : b % 2 ^ i = 0) : (a &&& b) % 2 ^ i = 0 := by rw [Nat.and_mod_two_pow, h]; simp
def nb (a : Int) : Nat := (a % 18446744073709551616).toNat
theorem nb_lt (a : Int) : nb a < 2 ^ 64 := by unfold nb; omega
theorem nb_ofInt (a : Int) : (BitVec.ofInt 64 a).toNat = nb a := by rw [BitVec.toNat_ofInt]; rfl
theorem nb_w (n : Int) : nb (wrap64 n) = nb n := by unfold nb wrap64; omega
theorem nb_nat {n : Nat} (h : n < 2 ^ 64) : nb n = n := by unfold nb; omega
theorem w_nb (a : Int) : wrap64 (nb a) = wrap64 a := by unfold nb wrap64; omega
end Go.Proofs.YtilmmmpbcgobaaaDoor.G
end
