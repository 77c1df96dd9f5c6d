import Derived.Test.YtkkgbbfojmnopaaPLaPG
import Derived.Test.YtkkgbbfojmnopaaPLaGxF9
import Derived.Test.YtkkgbbfojmnopaaPLaE11
import Derived.Test.YtkkgbbfojmnopaaPLaGx0
import Derived.Test.YtkkgbbfojmnopaaPLaGxF16
import Derived.Test.YtkkgbbfojmnopaaPLaGxF10
import Derived.Test.YtkkgbbfojmnopaaPLaGxF17
import Derived.Test.YtkkgbbfojmnopaaPLaGxF12
set_option linter.unusedVariables false
set_option linter.unusedSimpArgs false
section
namespace Go.Proofs.Ytkkgbbfojmnopaa.Z
open Go.RowKit Go.Proofs.Ytkkgbbfojmnopaa.G Go.Proofs.YtkkgbbfojmnopaaW.PrintWords Go.Proofs.YtkkgbbfojmnopaaW.PrintLast Go.Proofs.YtkkgbbfojmnopaaW.PrintMore
theorem mn_nat (n m : Nat) : mn (n : Int) (m : Int) = ((min n m : Nat) : Int) := by
 unfold mn
 split <;> omega
theorem take_min {α : Type} (xs : List α) (m : Nat) : xs.take (min xs.length m) = xs.take m := by
 rcases Nat.le_total xs.length m with h | h
 ·rw [Nat.min_eq_left h, List.take_length, List.take_of_length_le h]
 ·rw [Nat.min_eq_right h]
def cutP (q : S47) : S47 := ⟨q.f0, q.f1, q.f2.take 70, q.f3.take 60, q.f4.take 200⟩
def shortL (l : List S47) : List S47 := (l.take 12).map cutP
theorem mn70 (n : Nat) : mn (n : Int) 70 = ((min n 70 : Nat) : Int) := mn_nat n 70
theorem mn60 (n : Nat) : mn (n : Int) 60 = ((min n 60 : Nat) : Int) := mn_nat n 60
theorem mn200 (n : Nat) : mn (n : Int) 200 = ((min n 200 : Nat) : Int) := mn_nat n 200
theorem s_step (l : List S47) (i : Nat) (acc : List S47) (k : Nat) (hlt : i < l.length) (h12 : i < 12) (ha : acc.length < 1599289640401) {r : List S47} (h : tallowlaw21_short.l0 k ((i + 1 : Nat) : Int) l (acc ++ [cutP l[i]]) = some r) : tallowlaw21_short.l0 (k + 1) (i : Int) l acc = some r := by
 rw [tallowlaw21_short.l0, if_pos (by omega), if_pos (by omega), if_pos (by omega), rd41 _ _ hlt]
 simp only [Option.bind_some, mn70, mn60, mn200, Int.toNat_natCast, take_min, List.nil_append, List.length_nil, Nat.zero_add]
 rw [if_pos (by omega), if_pos (by omega), if_pos (by rw [List.length_take]; omega), if_pos (by omega), if_pos (by omega), if_pos (by rw [List.length_take]; omega), if_pos (by omega), if_pos (by omega), if_pos (by rw [List.length_take]; omega), if_pos ha, w_one (by omega)]
 exact h
theorem s_go (l : List S47) : ∀ (d i : Nat) (acc : List S47), i + d = min l.length 12 → acc.length ≤ i → Ev (fun k => tallowlaw21_short.l0 k (i : Int) l acc) (acc ++ ((l.take 12).drop i).map cutP)
 | 0, i, acc, hi, ha => by
  rw [List.drop_of_length_le (by rw [List.length_take]; omega)]
  show Ev _ (acc ++ [])
  rw [List.append_nil]
  refine Ev.step (f := fun _ => some acc) (fun k => ?_) (Ev.now _)
  rw [tallowlaw21_short.l0]
  by_cases h : (i : Int) < (l.length : Int)
  case neg =>
   rw [if_neg h]
  rw [if_pos h, if_neg (by omega)]
 | d + 1, i, acc, hi, ha => by
  have hlt : i < l.length := by omega
  have hd : (l.take 12).drop i = l[i] :: (l.take 12).drop (i + 1) := by
   rw [List.drop_eq_getElem_cons (by rw [List.length_take]; omega)]
   simp
  rw [hd, List.map_cons]
  have h1 := s_go l d (i + 1) (acc ++ [cutP l[i]]) (by omega) (by rw [List.length_append]; simp; omega)
  rw [List.append_assoc] at h1
  obtain ⟨K, hK⟩ := h1
  refine ⟨K + 1, fun n hn => ?_⟩
  obtain ⟨m, rfl⟩ : ∃ m, n = m + 1 := ⟨n - 1, by omega⟩
  exact s_step l i acc m hlt (by omega) (by omega) (hK m (by omega))
theorem short_ok (l : List S47) : Ev (fun k => tallowlaw21_short.f k l) (shortL l) := s_go l (min l.length 12) 0 [] (by omega) (by simp)
def leastL (c : List S42) : List S47 := [⟨0, 1, [], c, [⟨0, 0, 0⟩, ⟨19, 0, 0⟩]⟩]
def leastB : List UInt8 := [1, 0, 1, 0, 0, 2, 0, 0, 0, 19, 0, 0]
theorem least_check : checkS (leastL []) = 0 := by decide +kernel
theorem least_enc : progE (leastL []) = leastB := by decide +kernel
theorem leastE : encS (leastL []) = (⟨leastB.toArray⟩, 0) := by
 unfold encS
 rw [least_check, if_pos rfl, least_enc, if_neg (by decide)]
theorem leastD : decS ⟨leastB.toArray⟩ = (leastL [], 0) := dec_yes (by decide +kernel) (by rw [least_enc]) least_check (by intro q hq c hc; simp only [leastL, List.mem_singleton] at hq; subst hq; cases hc)
theorem least_in : inP (leastL []) := by intro q hq c hc; simp only [leastL, List.mem_singleton] at hq; subst hq; cases hc
theorem least_same (c : List S42) (hc : c.length ≤ 140737488351232) : Ev (fun k => code_Same.f k (leastL c) (leastL c)) true :=
 Ev.eq (c_Same _ _ (by simp [leastL]) (by intro x hx; simp only [leastL, List.mem_singleton] at hx; subst hx; exact ⟨by simp, hc, by simp⟩)) (sameL_self _)
theorem works_ok : Ev (fun k => tallowlaw21_works.f k) true := by
 unfold tallowlaw21_works.f
 refine Ev.bind (f := fun k t => _) (a := leastL []) (Ev.now _) ?_
 refine Ev.bind (f := fun k t => _) (Ev.eq (enc_ok _ least_in) leastE) ?_
 refine Ev.bind (f := fun k t => _) (Ev.eq (dec_ok _) leastD) ?_
 refine Ev.congr (f := fun k => (code_Same.f k (leastL []) (leastL [])).bind fun t => some t) (fun k => ?_) (Ev.bind (f := fun _ t => some t) (least_same [] (by simp)) (Ev.now _))
 simp only [if_true]
 rw [if_pos (show (⟨leastB.toArray⟩ : ByteArray).toList = [1, 0, 1, 0, 0, 2, 0, 0, 0, 19, 0, 0] by rw [ByteArray.toList_eq]; rfl)]
 rfl
end Go.Proofs.Ytkkgbbfojmnopaa.Z
end
