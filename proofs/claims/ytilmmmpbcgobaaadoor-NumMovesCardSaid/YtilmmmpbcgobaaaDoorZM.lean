import Derived.Shelf.Abstract
import Derived.LaidEql
import Derived.Stop.Asserts
import Derived.RowKitTokens
import Derived.Lib.LaidTab
import Derived.Lib.AppendIntMem
import Derived.Test.YtilmmmpbcgobaaaDoorGxF8
import Derived.Test.YtilmmmpbcgobaaaDoorZb
import Derived.Lib.Hide
namespace Go.Proofs.YtilmmmpbcgobaaaDoor.G
open Go.Shelf Go.Extern.Stop Go.Stop Go.Extern Go.RowKit Go.Proofs.YtilmmmpbcgobaaaDoorW.PrintWords Go.Proofs.YtilmmmpbcgobaaaDoorW.PrintLast Go.Proofs.YtilmmmpbcgobaaaDoorW.PrintMore
set_option linter.unusedVariables false
set_option linter.unusedSimpArgs false
theorem u64_small {x : Int} (h : 0 ≤ x ∧ x < 18446744073709551616) : IntKind.u64.wrap x = x := by
  show x % 18446744073709551616 = x; omega
theorem u64_nb (a : Int) : IntKind.u64.wrap a = (nb a : Int) := by
  show a % 18446744073709551616 = _; unfold nb; omega
theorem shl_i64 (a x : Int) : shl .i64 a x = wrap64 (a * 2 ^ min x.toNat 64) := by unfold shl; rw [i64_w]; rfl
theorem shr_u64 (a x : Int) : shr .u64 a x = a / 2 ^ min x.toNat 64 := rfl
theorem w_pow (a : Int) (X : Nat) : wrap64 (a * 2 ^ min X 64) = wrap64 (a * 2 ^ X) := by
  rcases Nat.le_total X 64 with h | h
  · rw [Nat.min_eq_left h]
  · rw [Nat.min_eq_right h]
    obtain ⟨d, rfl⟩ : ∃ d, X = 64 + d := ⟨X - 64, by omega⟩
    have e1 : wrap64 (a * 2 ^ 64) = wrap64 0 := w_of a (by rw [Int.zero_add, Int.mul_comm]; rfl)
    have e2 : wrap64 (a * 2 ^ (64 + d)) = wrap64 0 := w_of (a * 2 ^ d) (by rw [Int.zero_add, Int.pow_add, ← Int.mul_assoc, Int.mul_comm a, Int.mul_assoc]; rfl)
    rw [e1, e2]
theorem up_nat (a : Int) (X : Nat) (hX : X < 200) : num_up.f a X = some (wrap64 (a * 2 ^ X)) := by
  unfold num_up.f
  rw [if_neg (by omega), u64_small (by omega), if_pos (by omega), shl_i64, Int.toNat_natCast, w_pow]
theorem up_neg (a : Int) (X : Nat) (hX : X < 200) (h0 : 0 < X) : num_up.f a (-(X : Int)) = some (wrap64 ((nb a / 2 ^ min X 64 : Nat) : Int)) := by
  have hm : mx (-(X : Int)) (-64) = -((min X 64 : Nat) : Int) := by unfold mx; split <;> omega
  unfold num_up.f
  rw [if_pos (by omega), hm, Int.neg_neg, w_id (by omega), u64_small (by omega), if_pos (by omega), shr_u64, Int.toNat_natCast, u64_nb, Nat.min_eq_left (Nat.min_le_right X 64)]
  congr 2
theorem down_nat (a : Int) (X : Nat) (hX : X < 200) : num_ops_9.f a X = some (wrap64 ((nb a / 2 ^ min X 64 : Nat) : Int)) := by
  unfold num_ops_9.f
  rw [if_neg (by omega), u64_small (by omega), if_pos (by omega), shr_u64, Int.toNat_natCast, u64_nb]
  congr 2
theorem down_neg (a : Int) (X : Nat) (hX : X < 200) (h0 : 0 < X) : num_ops_9.f a (-(X : Int)) = some (wrap64 (a * 2 ^ X)) := by
  have hm : mx (-(X : Int)) (-64) = -((min X 64 : Nat) : Int) := by unfold mx; split <;> omega
  unfold num_ops_9.f
  rw [if_pos (by omega), hm, Int.neg_neg, w_id (by omega), up_nat a (min X 64) (by omega), w_pow]
  rfl
theorem do_up (a : Int) (X : Nat) (hX : X < 200) : tallowlaw01_do.f 8 a X = some (wrap64 (a * 2 ^ X)) := do_of _ _ _ _ (by decide) (by omega) (up_nat a X hX)
theorem do_down (a : Int) (X : Nat) (hX : X < 200) : tallowlaw01_do.f 9 a X = some (wrap64 ((nb a / 2 ^ min X 64 : Nat) : Int)) := do_of _ _ _ _ (by decide) (by omega) (down_nat a X hX)
theorem do_up_neg (a : Int) (ha : -9223372036854775808 ≤ a ∧ a < 9223372036854775808) (X : Nat) (hX : X < 200) : tallowlaw01_do.f 8 a (-(X : Int)) = some (wrap64 ((nb a / 2 ^ min X 64 : Nat) : Int)) := by
  by_cases h0 : X = 0
  · subst h0
    rw [show (-((0 : Nat) : Int)) = ((0 : Nat) : Int) from rfl, do_up a 0 hX]
    congr 1
    rw [show nb a / 2 ^ min 0 64 = nb a from Nat.div_one _, w_nb, Int.pow_zero, Int.mul_one]
  · exact do_of _ _ _ _ (by decide) (by omega) (up_neg a X hX (by omega))
theorem do_down_neg (a : Int) (ha : -9223372036854775808 ≤ a ∧ a < 9223372036854775808) (X : Nat) (hX : X < 200) : tallowlaw01_do.f 9 a (-(X : Int)) = some (wrap64 (a * 2 ^ X)) := by
  by_cases h0 : X = 0
  · subst h0
    rw [show (-((0 : Nat) : Int)) = ((0 : Nat) : Int) from rfl, do_down a 0 hX]
    congr 1
    rw [show nb a / 2 ^ min 0 64 = nb a from Nat.div_one _, w_nb, Int.pow_zero, Int.mul_one]
  · exact do_of _ _ _ _ (by decide) (by omega) (down_neg a X hX (by omega))
theorem div_lt64 (a : Int) (m : Nat) : nb a / 2 ^ m < 2 ^ 64 := Nat.lt_of_le_of_lt (Nat.div_le_self _ _) (nb_lt a)
theorem down_down (n X Y : Nat) (hn : n < 2 ^ 64) : n / 2 ^ min X 64 / 2 ^ min Y 64 = n / 2 ^ min (X + Y) 64 := by
  rw [Nat.div_div_eq_div_mul, ← Nat.pow_add]
  by_cases h : X + Y ≤ 64
  · rw [Nat.min_eq_left (by omega : X ≤ 64), Nat.min_eq_left (by omega : Y ≤ 64), Nat.min_eq_left h]
  · rw [Nat.min_eq_right (by omega : 64 ≤ X + Y), Nat.div_eq_of_lt hn, Nat.div_eq_of_lt]
    exact Nat.lt_of_lt_of_le hn (Nat.pow_le_pow_right (by decide) (by omega))
theorem nb_m1' : nb (-1) = 2 ^ 64 - 1 := by unfold nb; rfl
theorem back_eq (n m : Nat) (hm : m ≤ 64) : (n * 2 ^ m) % 2 ^ 64 / 2 ^ m = n % 2 ^ (64 - m) := by
  have e : (2 : Nat) ^ 64 = 2 ^ (64 - m) * 2 ^ m := by rw [← Nat.pow_add]; congr 1; omega
  rw [e, Nat.mul_mod_mul_right, Nat.mul_div_cancel _ (Nat.pow_pos (by decide))]
theorem ones_eq (m : Nat) (hm : m ≤ 64) : (2 ^ 64 - 1) / 2 ^ m = 2 ^ (64 - m) - 1 := by
  have e : (2 : Nat) ^ 64 = 2 ^ (64 - m) * 2 ^ m := by rw [← Nat.pow_add]; congr 1; omega
  have hp : 0 < 2 ^ m := Nat.pow_pos (by decide)
  have hq : 0 < 2 ^ (64 - m) := Nat.pow_pos (by decide)
  rw [e]
  generalize (2 : Nat) ^ (64 - m) = q at *
  generalize (2 : Nat) ^ m = p at *
  have e2 : q * p - 1 = (q - 1) * p + (p - 1) := by
    obtain ⟨q, rfl⟩ : ∃ z, q = z + 1 := ⟨q - 1, by omega⟩
    rw [Nat.add_mul, Nat.add_sub_cancel]; omega
  rw [e2, Nat.add_comm, Nat.add_mul_div_right _ _ hp, Nat.div_eq_of_lt (by omega), Nat.zero_add]
theorem ones_nb (m : Nat) (hm : m ≤ 64) : nb (-1) / 2 ^ m = 2 ^ (64 - m) - 1 := by rw [nb_m1', ones_eq m hm]
theorem nb_mul (a : Int) (m : Nat) : nb (a * 2 ^ m) = (nb a * 2 ^ m) % 2 ^ 64 := by
  have h1 : ((nb (a * 2 ^ m) : Nat) : Int) = (a * 2 ^ m) % 18446744073709551616 := by unfold nb; omega
  have h2 : ((nb a : Nat) : Int) = a % 18446744073709551616 := by unfold nb; omega
  have h3 : (((nb a * 2 ^ m) % 2 ^ 64 : Nat) : Int) = ((nb a : Int) * 2 ^ m) % 18446744073709551616 := by
    rw [Int.natCast_emod, Int.natCast_mul, Int.natCast_pow]; rfl
  rw [← Int.ofNat_inj, h1, h3, h2]
  have h4 := Int.emod_add_mul_ediv a 18446744073709551616
  have h5 : a * 2 ^ m = (a % 18446744073709551616) * 2 ^ m + 18446744073709551616 * ((a / 18446744073709551616) * 2 ^ m) := by
    rw [← Int.mul_assoc, ← Int.add_mul, h4]
  rw [h5, Int.add_mul_emod_self_left]
theorem pow_loop (a x8 : Int) (X : Nat) (hX : X < 70) : ∀ (d i : Nat), i + d = X →
    ∀ r, Ev (fun k => (tallowlaw01_do.f 8 a X).bind fun t225 => ((tallowlaw01_do.f 2 a (wrap64 (2 ^ X))).bind fun t226 => (if t225 = t226 then ((tallowlaw01_do.f 9 a (wrap64 (-(X : Int)))).bind fun t227 => (if t227 = t225 then ((tallowlaw01_do.f 8 a (wrap64 (-(X : Int)))).bind fun t228 => ((tallowlaw01_do.f 9 a X).bind fun t229 => (tallowlaw01_NumMoves.j1 k a X x8 t225 (t228 != t229)))) else (tallowlaw01_NumMoves.j1 k a X x8 t225 true))) else (tallowlaw01_NumMoves.j1 k a X x8 t225 true)))) r →
      Ev (fun k => tallowlaw01_NumMoves.l0 k a X x8 (wrap64 (2 ^ i)) i) r
  | 0, i, hi, r, h => by
    obtain rfl : i = X := by omega
    exact Ev.step (fun k => by rw [tallowlaw01_NumMoves.l0, if_neg (by omega)]) h
  | d + 1, i, hi, r, h => by
    refine Ev.step (f := fun k => tallowlaw01_NumMoves.l0 k a X x8 (wrap64 (2 ^ (i + 1))) ((i + 1 : Nat) : Int)) (fun k => ?_) (pow_loop a x8 X hX d (i + 1) (by omega) r h)
    rw [tallowlaw01_NumMoves.l0, if_pos (by omega), do_mul, Option.bind_some, w_mul, ← Int.pow_succ, w_id (x := (i : Int) + 1) (by omega)]
    rfl
theorem numMoves (a m n : Int) (ha : (Lit.int .i64 a).wf = true) (hm : (Lit.int .u8 m).wf = true) (hn : (Lit.int .u8 n).wf = true) : ∃ k, tallowlaw01_NumMoves.f k a m n = some true := by
  have ra := wf_i64 ha
  have rm := wf_u8 hm
  have rn := wf_u8 hn
  obtain ⟨X, hX⟩ : ∃ X : Nat, m % 70 = X := ⟨(m % 70).toNat, by omega⟩
  obtain ⟨Y, hY⟩ : ∃ Y : Nat, n % 70 = Y := ⟨(n % 70).toNat, by omega⟩
  have hX70 : X < 70 := by omega
  have hY70 : Y < 70 := by omega
  have hX2 : X < 200 := by omega
  have hY2 : Y < 200 := by omega
  have hXY2 : X + Y < 200 := by omega
  have hnX : wrap64 (-(X : Int)) = -(X : Int) := w_id (by omega)
  have hxy : wrap64 ((X : Int) + Y) = ((X + Y : Nat) : Int) := by rw [w_id (by omega)]; omega
  suffices h : Ev (fun k => tallowlaw01_NumMoves.f k a m n) true from h.rounds
  refine Ev.congr (f := fun k => tallowlaw01_NumMoves.l0 k a X Y (wrap64 (2 ^ 0)) ((0 : Nat) : Int)) (fun k => by
    unfold tallowlaw01_NumMoves.f
    rw [Int.tmod_eq_emod_of_nonneg rm.1, Int.tmod_eq_emod_of_nonneg rn.1, hX, hY, w_id (by omega), w_id (by omega), Int.pow_zero, w_id (x := 1) (by decide)]
    rfl) ?_
  refine pow_loop a Y X hX70 X 0 (by omega) true ?_
  have hm64 := Nat.min_le_right X 64
  obtain ⟨u, hu⟩ : ∃ t, wrap64 (a * 2 ^ X) = t := ⟨_, rfl⟩
  obtain ⟨v, hv⟩ : ∃ t, wrap64 ((nb a / 2 ^ min X 64 : Nat) : Int) = t := ⟨_, rfl⟩
  have e1 : tallowlaw01_do.f 8 a X = some u := by rw [do_up a X hX2, hu]
  have e2 : tallowlaw01_do.f 2 a (wrap64 (2 ^ X)) = some u := by rw [do_mul, w_mul', hu]
  have e3 : tallowlaw01_do.f 9 a (wrap64 (-(X : Int))) = some u := by rw [hnX, do_down_neg a ra X hX2, hu]
  have e4 : tallowlaw01_do.f 8 a (wrap64 (-(X : Int))) = some v := by rw [hnX, do_up_neg a ra X hX2, hv]
  have e5 : tallowlaw01_do.f 9 a X = some v := by rw [do_down a X hX2, hv]
  refine Ev.congr (f := fun k => tallowlaw01_NumMoves.j1 k a X Y u false) (fun k => by
    rw [e1, Option.bind_some, e2, Option.bind_some, if_pos rfl, e3, Option.bind_some, if_pos rfl, e4, Option.bind_some, e5, Option.bind_some, bne_self_eq_false]) ?_
  have nv : nb v = nb a / 2 ^ min X 64 := by rw [← hv, nb_w, nb_nat (div_lt64 a (min X 64))]
  have nu : nb u = (nb a * 2 ^ min X 64) % 2 ^ 64 := by rw [← hu, ← w_pow, nb_w, nb_mul]
  have e6 : tallowlaw01_do.f 9 u X = some (wrap64 ((nb a % 2 ^ (64 - min X 64) : Nat) : Int)) := by
    rw [do_down u X hX2, nu, back_eq (nb a) (min X 64) hm64]
  obtain ⟨al, hal⟩ : ∃ t, wrap64 ((nb (-1) / 2 ^ min X 64 : Nat) : Int) = t := ⟨_, rfl⟩
  have e7 : tallowlaw01_do.f 9 (-1) X = some al := by rw [do_down (-1) X hX2, hal]
  have nal : nb al = 2 ^ (64 - min X 64) - 1 := by rw [← hal, nb_w, nb_nat (div_lt64 (-1) (min X 64))]; exact ones_nb (min X 64) hm64
  have e8 : tallowlaw01_do.f 5 a al = some (wrap64 ((nb a % 2 ^ (64 - min X 64) : Nat) : Int)) := by
    rw [do_and, and_i64, nal, Nat.and_two_pow_sub_one_eq_mod]
  have e9 : tallowlaw01_do.f 9 v Y = some (wrap64 ((nb a / 2 ^ min (X + Y) 64 : Nat) : Int)) := by
    rw [do_down v Y hY2, nv, down_down _ _ _ (nb_lt a)]
  have e10 : tallowlaw01_do.f 9 a (wrap64 ((X : Int) + Y)) = some (wrap64 ((nb a / 2 ^ min (X + Y) 64 : Nat) : Int)) := by rw [hxy, do_down a (X + Y) hXY2]
  have e11 : tallowlaw01_do.f 8 u Y = some (wrap64 (a * 2 ^ (X + Y))) := by rw [do_up u Y hY2, ← hu, w_mul, Int.mul_assoc, ← Int.pow_add]
  have e12 : tallowlaw01_do.f 8 a (wrap64 ((X : Int) + Y)) = some (wrap64 (a * 2 ^ (X + Y))) := by rw [hxy, do_up a (X + Y) hXY2]
  refine Ev.step (f := fun _ => some true) (fun k => ?_) (Ev.now true)
  rw [tallowlaw01_NumMoves.j1, if_neg (by decide), e6, Option.bind_some, e7, Option.bind_some, e8, Option.bind_some, if_pos rfl, e5, Option.bind_some, e9, Option.bind_some, e10, Option.bind_some, if_pos rfl, e1, Option.bind_some, e11, Option.bind_some, e12, Option.bind_some, if_pos rfl, works_ok]
  rfl
end Go.Proofs.YtilmmmpbcgobaaaDoor.G
