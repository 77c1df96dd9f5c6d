import Derived.Shelf.Abstract
import Derived.LaidEql
import Derived.Stop.Asserts
import Derived.RowKitTokens
import Derived.Lib.LaidTab
import Derived.Lib.AppendIntMem
import Derived.Lib.ItoaLen
import Derived.Test.YtilmmmpbcgobaaaDoorPDoZDq
import Derived.Test.YtilmmmpbcgobaaaDoorPDoGxF3
import Derived.Lib.Hide
set_option linter.unusedVariables false
set_option linter.unusedSimpArgs false
section
namespace Go.Proofs.YtilmmmpbcgobaaaDoor.G
open Go.Shelf Go.Extern.Stop Go.Stop Go.Extern Go.RowKit Go.Proofs.YtilmmmpbcgobaaaDoorW.PrintWords Go.Proofs.YtilmmmpbcgobaaaDoorW.PrintLast Go.Proofs.YtilmmmpbcgobaaaDoorW.PrintMore
set_option linter.unusedVariables false
set_option linter.unusedSimpArgs false
theorem upV0 {a : Int} (ha : -9223372036854775808 ≤ a ∧ a < 9223372036854775808) : upV a 0 = a := by unfold upV; rw [Int.pow_zero, Int.mul_one, w_id ha]
theorem downV0 {a : Int} (ha : -9223372036854775808 ≤ a ∧ a < 9223372036854775808) : downV a 0 = a := by unfold downV; rw [Nat.pow_zero, Nat.div_one, w_nb, w_id ha]
theorem up_of {a n : Int} (ha : -9223372036854775808 ≤ a ∧ a < 9223372036854775808) (m : Nat) (hm : mn n 64 = m) : Ev (fun k => tallowref01_up.f k a n) (upV a m) := by
  have := upR_ev a n m hm m 0 (by omega)
  rw [upV0 ha] at this
  exact this
theorem down_of {a n : Int} (ha : -9223372036854775808 ≤ a ∧ a < 9223372036854775808) (m : Nat) (hm : mn n 64 = m) : Ev (fun k => tallowref01_down.f k a n) (downV a m) := by
  have := downR_ev a n m hm m 0 (by omega)
  rw [downV0 ha] at this
  exact this
theorem j0_up {a n : Int} (ha : -9223372036854775808 ≤ a ∧ a < 9223372036854775808) (m : Nat) (hm : mn n 64 = m) : Ev (fun k => tallowref01_moved.j0 k a n true) (upV a m) :=
  Ev.step (f := fun k => (tallowref01_up.f k a n).bind fun t => some t) (fun k => by rw [tallowref01_moved.j0, if_pos rfl]) (Ev.bind (f := fun _ t => some t) (up_of ha m hm) (Ev.now _))
theorem j0_down {a n : Int} (ha : -9223372036854775808 ≤ a ∧ a < 9223372036854775808) (m : Nat) (hm : mn n 64 = m) : Ev (fun k => tallowref01_moved.j0 k a n false) (downV a m) :=
  Ev.step (f := fun k => (tallowref01_down.f k a n).bind fun t => some t) (fun k => by rw [tallowref01_moved.j0, if_neg (by decide)]) (Ev.bind (f := fun _ t => some t) (down_of ha m hm) (Ev.now _))
def cnt (n : Int) : Nat := min n.natAbs 64
theorem moved_ev {a n : Int} (ha : -9223372036854775808 ≤ a ∧ a < 9223372036854775808) (hn : -9223372036854775808 ≤ n ∧ n < 9223372036854775808) (u : Bool) :
    Ev (fun k => tallowref01_moved.f k a n u) (if (u = true ↔ 0 ≤ n) then upV a (cnt n) else downV a (cnt n)) := by
  by_cases h : n < 0
  · have hx : (mx (wrap64 (-n)) 0 = 0 ∧ n = -9223372036854775808) ∨ (mx (wrap64 (-n)) 0 = -n ∧ n ≠ -9223372036854775808) := by
      by_cases e : n = -9223372036854775808
      · left; subst e; exact ⟨by unfold mx wrap64; decide, rfl⟩
      · right; rw [w_id (by omega)]; unfold mx; exact ⟨by rw [if_neg (by omega)], e⟩
    obtain ⟨n', hn', hc⟩ : ∃ n' : Int, (∀ k, tallowref01_moved.f k a n u = tallowref01_moved.j0 k a n' (!u)) ∧ mn n' 64 = (cnt n : Int) := by
      rcases hx with ⟨h1, h2⟩ | ⟨h1, h2⟩
      · refine ⟨64, fun k => by unfold tallowref01_moved.f; rw [if_pos h, if_pos h1], ?_⟩
        unfold mn cnt; rw [if_neg (by decide)]; omega
      · refine ⟨-n, fun k => by unfold tallowref01_moved.f; rw [if_pos h, h1, if_neg (by omega)], ?_⟩
        unfold mn cnt; split <;> omega
    refine Ev.congr hn' ?_
    cases u with
    | true => rw [if_neg (by intro e; have := e.1 rfl; omega)]; exact j0_down ha _ hc
    | false => rw [if_pos (by constructor; intro e; cases e; intro e; omega)]; exact j0_up ha _ hc
  · have hc : mn n 64 = (cnt n : Int) := by unfold mn cnt; split <;> omega
    refine Ev.congr (f := fun k => tallowref01_moved.j0 k a n u) (fun k => by unfold tallowref01_moved.f; rw [if_neg h]) ?_
    cases u with
    | true => rw [if_pos (by constructor; intro _; omega; intro _; rfl)]; exact j0_up ha _ hc
    | false => rw [if_neg (by intro e; have := e.2 (by omega); cases this)]; exact j0_down ha _ hc
theorem neg_cnt {n : Int} (hn : -9223372036854775808 ≤ n ∧ n < 0) : wrap64 (-(mx n (-64))) = (cnt n : Int) := by
  have : mx n (-64) = -(cnt n : Int) := by unfold mx cnt; split <;> omega
  rw [this, Int.neg_neg, w_id (by unfold cnt; omega)]
theorem cnt_le (n : Int) : cnt n ≤ 64 := Nat.min_le_right _ _
theorem shr_cnt (a : Int) (m : Nat) (hm : m ≤ 64) : wrap64 (shr .u64 (IntKind.u64.wrap a) (m : Int)) = downV a m := by
  unfold downV
  rw [shr_u64, Int.toNat_natCast, Nat.min_eq_left hm, u64_nb, Int.natCast_ediv, Int.natCast_pow]
  rfl
theorem up_any {a n : Int} (hn : -9223372036854775808 ≤ n ∧ n < 9223372036854775808) : num_up.f a n = some (if 0 ≤ n then upV a (cnt n) else downV a (cnt n)) := by
  unfold num_up.f
  by_cases h : n < 0
  · have hc := cnt_le n
    rw [if_pos h, neg_cnt ⟨hn.1, h⟩, u64_small (x := (cnt n : Int)) (by omega), if_pos (by omega), shr_cnt a _ hc, if_neg (by omega)]
  · rw [if_neg h, u64_small (x := n) (by omega), if_pos (by omega), shl_i64, if_pos (by omega)]
    unfold upV
    rw [show cnt n = min n.toNat 64 from by unfold cnt; congr 1; omega]
theorem down_any {a n : Int} (hn : -9223372036854775808 ≤ n ∧ n < 9223372036854775808) : num_ops_9.f a n = some (if 0 ≤ n then downV a (cnt n) else upV a (cnt n)) := by
  unfold num_ops_9.f
  by_cases h : n < 0
  · have hc := cnt_le n
    rw [if_pos h, neg_cnt ⟨hn.1, h⟩, up_any (by omega), if_pos (by omega), if_neg (by omega), show cnt (cnt n : Int) = cnt n from by unfold cnt; omega]
    rfl
  · rw [if_neg h, u64_small (x := n) (by omega), if_pos (by omega), shr_u64, u64_nb, if_pos (by omega)]
    unfold downV
    rw [show cnt n = min n.toNat 64 from by unfold cnt; congr 1; omega, Int.natCast_ediv, Int.natCast_pow]
    rfl
theorem num_val {op a b : Int} (h0 : 0 ≤ op ∧ op ≤ 9) (h1 : ¬ (b = 0 ∧ (op = 3 ∨ op = 4))) {v : Int} (h : doF op a b = some v) : num_Do.f op a b = some (v, 0) := by
  unfold num_Do.f
  rw [if_neg (by omega), if_neg h1, h]; rfl
theorem w_mod (x : Nat) : wrap64 ((x % 2 ^ 64 : Nat) : Int) = wrap64 (x : Int) := by unfold wrap64; omega
theorem w_nbs (x : Int) (k : Int) : wrap64 (x + nb k) = wrap64 (x + k) := by unfold nb wrap64; omega
theorem w_nbm (x y : Int) : wrap64 ((nb x * nb y : Nat) : Int) = wrap64 (x * y) := by
  rw [Int.natCast_mul, ← w_mul, w_nb, w_mul, Int.mul_comm, ← w_mul, w_nb, w_mul, Int.mul_comm]
theorem nb_mulnat (x y : Int) : nb x * nb y % 2 ^ 64 = nb (x * y) := by
  have h := w_nbm x y
  have h1 := nb_w ((nb x * nb y : Nat) : Int)
  rw [h, nb_w] at h1
  rw [h1]
  generalize nb x * nb y = z
  unfold nb
  omega
theorem do_ev {op a b : Int} (ho : -9223372036854775808 ≤ op ∧ op < 9223372036854775808) (ha : -9223372036854775808 ≤ a ∧ a < 9223372036854775808) (hb : -9223372036854775808 ≤ b ∧ b < 9223372036854775808) :
    ∃ v e, num_Do.f op a b = some (v, e) ∧ Ev (fun k => tallowref01_Do.f k op a b) (v, e) := by
  have e0 : ∀ k, tallowref01_Do.f k op a b = tallowref01_Do.j0 k op a b (decide (op < 0 ∨ 9 < op)) := fun k => by
    unfold tallowref01_Do.f
    by_cases h : op < 0
    · rw [if_pos h, decide_eq_true (.inl h)]
    · rw [if_neg h]; congr 1; rw [decide_eq_decide]; omega
  by_cases h0 : op < 0 ∨ 9 < op
  · refine ⟨0, 2, by unfold num_Do.f; rw [if_pos h0], Ev.congr e0 ?_⟩
    rw [decide_eq_true h0]
    exact Ev.step (f := fun _ => some (0, 2)) (fun k => by rw [tallowref01_Do.j0, if_pos rfl]) (Ev.now _)
  rw [decide_eq_false h0] at e0
  have e1 : ∀ k, tallowref01_Do.j0 (k + 1) op a b false = tallowref01_Do.j1 k op a b (decide (b = 0 ∧ (op = 3 ∨ op = 4))) := fun k => by
    rw [tallowref01_Do.j0, if_neg (by decide)]
    by_cases h : b = 0
    · rw [if_pos h]
      by_cases h3 : op = 3
      · rw [if_pos h3, decide_eq_true ⟨h, .inl h3⟩]
      · rw [if_neg h3]; congr 1; rw [Bool.eq_iff_iff]; simp [h, h3]
    · rw [if_neg h, decide_eq_false (fun e => h e.1)]
  by_cases h1 : b = 0 ∧ (op = 3 ∨ op = 4)
  · refine ⟨0, 8, by unfold num_Do.f; rw [if_neg h0, if_pos h1], Ev.congr e0 (Ev.step e1 ?_)⟩
    rw [decide_eq_true h1]
    exact Ev.step (f := fun _ => some (0, 8)) (fun k => by rw [tallowref01_Do.j1, if_pos rfl]) (Ev.now _)
  rw [decide_eq_false h1] at e1
  have fin : ∀ v, doF op a b = some v → Ev (fun k => tallowref01_Do.j1 k op a b false) (v, 0) → ∃ v e, num_Do.f op a b = some (v, e) ∧ Ev (fun k => tallowref01_Do.f k op a b) (v, e) :=
    fun v hv hE => ⟨v, 0, num_val (by omega) h1 hv, Ev.congr e0 (Ev.step e1 hE)⟩
  have hna := nb_lt a
  have hnb := nb_lt b
  rcases (by omega : op = 0 ∨ op = 1 ∨ op = 2 ∨ op = 3 ∨ op = 4 ∨ op = 5 ∨ op = 6 ∨ op = 7 ∨ op = 8 ∨ op = 9) with rfl | rfl | rfl | rfl | rfl | rfl | rfl | rfl | rfl | rfl
  · refine fin (wrap64 (a + b)) rfl (Ev.step (f := fun k => (tallowref01_sum.f k ((nb a : Nat) : Int) ((nb b : Nat) : Int)).bind fun t116 => (some (wrap64 (t116), 0))) (fun k => by rw [tallowref01_Do.j1, if_neg (by decide), if_pos rfl, u64_nb, u64_nb]) ?_)
    refine Ev.bind (f := fun _ t116 => some (wrap64 t116, 0)) (sum_of hna hnb) (Ev.eq (Ev.now _) ?_)
    congr 1
    rw [w_mod, Int.natCast_add, w_nbs, Int.add_comm, w_nbs, Int.add_comm]
  · refine fin (wrap64 (a - b)) rfl (Ev.step (f := fun k => (tallowref01_less0.f k ((nb b : Nat) : Int)).bind fun t117 => ((tallowref01_sum.f k ((nb a : Nat) : Int) t117).bind fun t118 => (some (wrap64 (t118), 0)))) (fun k => by rw [tallowref01_Do.j1, if_neg (by decide), if_neg (by decide), if_pos rfl, u64_nb, u64_nb]) ?_)
    refine Ev.bind (f := fun k t117 => ((tallowref01_sum.f k ((nb a : Nat) : Int) t117).bind fun t118 => (some (wrap64 (t118), 0)))) (less0_of hnb) ?_
    refine Ev.bind (f := fun _ t118 => some (wrap64 t118, 0)) (sum_of hna (Nat.mod_lt _ (by decide))) (Ev.eq (Ev.now _) ?_)
    congr 1
    unfold nb wrap64
    omega
  · refine fin (wrap64 (a * b)) rfl (Ev.step (f := fun k => (tallowref01_product.f k ((nb a : Nat) : Int) ((nb b : Nat) : Int)).bind fun t119 => (some (wrap64 (t119), 0))) (fun k => by rw [tallowref01_Do.j1, if_neg (by decide), if_neg (by decide), if_neg (by decide), if_pos rfl, u64_nb, u64_nb]) ?_)
    refine Ev.bind (f := fun _ t119 => some (wrap64 t119, 0)) (product_of hna hnb) (Ev.eq (Ev.now _) ?_)
    congr 1
    rw [w_mod, w_nbm]
  · have hb0 : b ≠ 0 := fun e => h1 ⟨e, .inl rfl⟩
    obtain ⟨Q, r, hp, he, hr⟩ := parts_spec ha hb hb0
    have hQ := quo_unique he hr
    refine fin (wrap64 Q) (by show (num_parts.f a b).bind _ = _; rw [hp]; rfl) (Ev.step (f := fun k => (tallowref01_quotient.f k a b).bind fun t120 => (some (t120, 0))) (fun k => by rw [tallowref01_Do.j1, if_neg (by decide), if_neg (by decide), if_neg (by decide), if_neg (by decide), if_pos rfl]) ?_)
    rw [hQ]
    exact Ev.bind (f := fun _ t120 => some (t120, 0)) (quotient_ev ha hb hb0) (Ev.now _)
  · have hb0 : b ≠ 0 := fun e => h1 ⟨e, .inr rfl⟩
    obtain ⟨Q, r, hp, he, hr⟩ := parts_spec ha hb hb0
    have hQ := quo_unique he hr
    refine fin r (by show (num_parts.f a b).bind _ = _; rw [hp]; rfl) (Ev.step (f := fun k => (tallowref01_quotient.f k a b).bind fun t121 => ((tallowref01_product.f k ((nb b : Nat) : Int) (IntKind.u64.wrap (t121))).bind fun t122 => ((tallowref01_less0.f k t122).bind fun t123 => ((tallowref01_sum.f k ((nb a : Nat) : Int) t123).bind fun t124 => (some (wrap64 (t124), 0)))))) (fun k => by rw [tallowref01_Do.j1, if_neg (by decide), if_neg (by decide), if_neg (by decide), if_neg (by decide), if_neg (by decide), if_pos rfl, u64_nb, u64_nb]) ?_)
    refine Ev.bind (f := fun k t121 => ((tallowref01_product.f k ((nb b : Nat) : Int) (IntKind.u64.wrap (t121))).bind fun t122 => ((tallowref01_less0.f k t122).bind fun t123 => ((tallowref01_sum.f k ((nb a : Nat) : Int) t123).bind fun t124 => (some (wrap64 (t124), 0)))))) (quotient_ev ha hb hb0) ?_
    rw [← hQ]
    refine Ev.congr (f := fun k => (tallowref01_product.f k ((nb b : Nat) : Int) ((nb Q : Nat) : Int)).bind fun t122 => ((tallowref01_less0.f k t122).bind fun t123 => ((tallowref01_sum.f k ((nb a : Nat) : Int) t123).bind fun t124 => (some (wrap64 (t124), 0))))) (fun k => by rw [u64_nb, nb_w]) ?_
    refine Ev.bind (f := fun k t122 => ((tallowref01_less0.f k t122).bind fun t123 => ((tallowref01_sum.f k ((nb a : Nat) : Int) t123).bind fun t124 => (some (wrap64 (t124), 0))))) (product_of hnb (nb_lt Q)) ?_
    rw [nb_mulnat]
    refine Ev.bind (f := fun k t123 => ((tallowref01_sum.f k ((nb a : Nat) : Int) t123).bind fun t124 => (some (wrap64 (t124), 0)))) (less0_of (nb_lt _)) ?_
    refine Ev.bind (f := fun _ t124 => some (wrap64 t124, 0)) (sum_of hna (Nat.mod_lt _ (by decide))) (Ev.eq (Ev.now _) ?_)
    congr 1
    have hrr : -9223372036854775808 ≤ r ∧ r < 9223372036854775808 := by omega
    generalize b * Q = z at *
    unfold nb wrap64
    omega
  · exact fin _ rfl (Ev.step (f := fun _ => some (Go.bits .and .i64 a b, 0)) (fun k => by rw [tallowref01_Do.j1, if_neg (by decide), if_neg (by decide), if_neg (by decide), if_neg (by decide), if_neg (by decide), if_neg (by decide), if_pos rfl]) (Ev.now _))
  · exact fin _ rfl (Ev.step (f := fun _ => some (Go.bits .or .i64 a b, 0)) (fun k => by rw [tallowref01_Do.j1, if_neg (by decide), if_neg (by decide), if_neg (by decide), if_neg (by decide), if_neg (by decide), if_neg (by decide), if_neg (by decide), if_pos rfl]) (Ev.now _))
  · exact fin _ rfl (Ev.step (f := fun _ => some (Go.bits .xor .i64 a b, 0)) (fun k => by rw [tallowref01_Do.j1, if_neg (by decide), if_neg (by decide), if_neg (by decide), if_neg (by decide), if_neg (by decide), if_neg (by decide), if_neg (by decide), if_neg (by decide), if_pos rfl]) (Ev.now _))
  · refine fin _ (up_any hb) (Ev.step (f := fun k => (tallowref01_moved.f k a b true).bind fun t125 => (some (t125, 0))) (fun k => by rw [tallowref01_Do.j1, if_neg (by decide), if_neg (by decide), if_neg (by decide), if_neg (by decide), if_neg (by decide), if_neg (by decide), if_neg (by decide), if_neg (by decide), if_neg (by decide), if_pos rfl]) ?_)
    refine Ev.bind (f := fun _ t125 => some (t125, 0)) (moved_ev ha hb true) (Ev.eq (Ev.now _) ?_)
    congr 1
    by_cases h : 0 ≤ b
    · rw [if_pos h, if_pos (by constructor; intro _; exact h; intro _; rfl)]
    · rw [if_neg h, if_neg (fun e => h (e.1 rfl))]
  · refine fin _ (down_any hb) (Ev.step (f := fun k => (tallowref01_moved.f k a b false).bind fun t126 => (some (t126, 0))) (fun k => by rw [tallowref01_Do.j1, if_neg (by decide), if_neg (by decide), if_neg (by decide), if_neg (by decide), if_neg (by decide), if_neg (by decide), if_neg (by decide), if_neg (by decide), if_neg (by decide), if_neg (by decide)]) ?_)
    refine Ev.bind (f := fun _ t126 => some (t126, 0)) (moved_ev ha hb false) (Ev.eq (Ev.now _) ?_)
    congr 1
    by_cases h : 0 ≤ b
    · rw [if_pos h, if_neg (fun e => by have := e.2 h; cases this)]
    · rw [if_neg h, if_pos (by constructor; intro e; cases e; intro e; exact absurd e h)]
theorem numDoes (op a b : Int) (ho : (Lit.int .i64 op).wf = true) (ha : (Lit.int .i64 a).wf = true) (hb : (Lit.int .i64 b).wf = true) : ∃ k, tallowlaw01_NumDoes.f k op a b = some true := by
  suffices h : Ev (fun k => tallowlaw01_NumDoes.f k op a b) true from h.rounds
  obtain ⟨v, e, h1, h2⟩ := do_ev (wf_i64 ho) (wf_i64 ha) (wf_i64 hb)
  refine Ev.congr (f := fun k => (tallowref01_Do.f k op a b).bind fun bt175 => (if v = bt175.1 then (if e = bt175.2 then ((tallowlaw01_works.f).bind fun t177 => (some t177)) else (some false)) else (some false))) (fun k => by unfold tallowlaw01_NumDoes.f; rw [h1, Option.bind_some]) ?_
  refine Ev.bind (f := fun k bt175 => (if v = bt175.1 then (if e = bt175.2 then ((tallowlaw01_works.f).bind fun t177 => (some t177)) else (some false)) else (some false))) h2 ?_
  exact Ev.congr (f := fun _ => some true) (fun k => by rw [if_pos rfl, if_pos rfl, works_ok]; rfl) (Ev.now true)
end Go.Proofs.YtilmmmpbcgobaaaDoor.G
end
