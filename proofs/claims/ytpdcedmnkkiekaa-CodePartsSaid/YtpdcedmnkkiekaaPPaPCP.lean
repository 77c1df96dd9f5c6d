import Derived.Test.YtpdcedmnkkiekaaPPaPC
import Derived.Test.YtpdcedmnkkiekaaPPaGxF6
set_option linter.unusedVariables false
set_option linter.unusedSimpArgs false
section
namespace Go.Proofs.Ytpdcedmnkkiekaa.Z
open Go.RowKit Go.Proofs.Ytpdcedmnkkiekaa.G Go.Proofs.YtpdcedmnkkiekaaW.PrintWords Go.Proofs.YtpdcedmnkkiekaaW.PrintLast Go.Proofs.YtpdcedmnkkiekaaW.PrintMore
set_option linter.unusedVariables false
set_option linter.unusedSimpArgs false
theorem go_zero (l : List S41) : ∀ (r : List S41) (i : Nat), checkS.go l r i = 0 ↔ ∀ j (h : j < r.length), protoS r[j].f0 r[j].f1 r[j].f2 r[j].f3 r[j].f4 (i + j == 0) l.length = 0
  | [], i => by simp [checkS.go]
  | x :: r, i => by
    unfold checkS.go
    constructor
    · intro h j hj
      by_cases he : protoS x.f0 x.f1 x.f2 x.f3 x.f4 (i == 0) l.length = 0
      · rw [if_pos he] at h
        rcases j with _ | j
        · simpa using he
        · have h2 := (go_zero l r (i + 1)).1 h j (by simpa using hj)
          simpa [show i + (j + 1) = i + 1 + j by omega] using h2
      · rw [if_neg he] at h
        exact absurd h he
    · intro h
      have he : protoS x.f0 x.f1 x.f2 x.f3 x.f4 (i == 0) l.length = 0 := h 0 (Nat.zero_lt_succ _)
      rw [if_pos he]
      refine (go_zero l r (i + 1)).2 (fun j hj => ?_)
      have h2 := h (j + 1) (by simpa using hj)
      simpa [show i + (j + 1) = i + 1 + j by omega] using h2
def okAt (x : S41) (i n : Nat) : Prop := protoS x.f0 x.f1 x.f2 x.f3 x.f4 (i == 0) n = 0
theorem checkS_zero (l : List S41) : checkS l = 0 ↔ 0 < l.length ∧ l.length ≤ 256 ∧ ∀ j (h : j < l.length), okAt l[j] j l.length := by
  unfold checkS
  by_cases h0 : l.length = 0
  · rw [if_pos h0]; constructor
    · intro h; cases h
    · intro h; omega
  rw [if_neg h0]
  by_cases h1 : l.length > 256
  · rw [if_pos h1]; constructor
    · intro h; cases h
    · intro h; omega
  rw [if_neg h1, go_zero]
  constructor
  · intro h
    exact ⟨by omega, by omega, fun j hj => by have := h j hj; simpa [okAt] using this⟩
  · intro h j hj
    have := h.2.2 j hj
    simpa [okAt] using this
theorem P0_ok (i n : Nat) (hn : n ≤ 256) : okAt G.P0 i n := by
  unfold okAt G.P0 protoS
  have h1 : (decide (i = 0) && decide (0 < 0)) = false := by simp
  simp [okI, insK, grpOf]
theorem qL_len (l : List S41) (i : Nat) : (G.qL l i).length = l.length := by simp [G.qL]
theorem q_zero (l : List S41) (i : Nat) (hi : i < l.length) (hn : l.length ≤ 256) : checkS (G.qL l i) = 0 ↔ okAt l[i] i l.length := by
  rw [checkS_zero]
  have hget : ∀ j (h : j < (G.qL l i).length), (G.qL l i)[j] = if j = i then l[i] else G.P0 := by
    intro j h
    have hj : j < l.length := by rw [qL_len] at h; exact h
    have h2 : ((List.replicate l.length G.P0).set i (rd_T41 l i))[j]'(by simpa using hj) = if j = i then l[i] else G.P0 := by
      rw [List.getElem_set]
      by_cases e : i = j
      · rw [if_pos e, if_pos e.symm, rd41 l i hi]
      · rw [if_neg e, if_neg (fun h => e h.symm), List.getElem_replicate]
    exact h2
  constructor
  · intro h
    have h2 := h.2.2 i (by rw [qL_len]; exact hi)
    rw [hget, if_pos rfl, qL_len] at h2
    exact h2
  · intro h
    refine ⟨by rw [qL_len]; omega, by rw [qL_len]; exact hn, fun j hj => ?_⟩
    rw [hget, qL_len]
    by_cases e : j = i
    · subst e; rw [if_pos rfl]; exact h
    · rw [if_neg e]; exact P0_ok j l.length hn
theorem parts_eq (l : List S41) (h0 : 0 < l.length) (hn : l.length ≤ 256) : G.allB (fun i => checkS (G.qL l i)) l.length = (checkS l == 0) := by
  unfold G.allB
  rw [Bool.eq_iff_iff, decide_eq_true_eq, beq_iff_eq, checkS_zero]
  constructor
  · intro h
    exact ⟨h0, hn, fun j hj => (q_zero l j hj hn).1 (h j hj)⟩
  · intro h j hj
    exact (q_zero l j hj hn).2 (h.2.2 j hj)
theorem Ev.all {g : Nat → Nat → Option Int} {r : Nat → Int} (h : ∀ i, Ev (g i) (r i)) : ∀ n, ∃ K, ∀ k, K ≤ k → ∀ i, i < n → g i k = some (r i)
  | 0 => ⟨0, fun _ _ i hi => by omega⟩
  | n + 1 => by
    obtain ⟨K, hK⟩ := Ev.all h n
    obtain ⟨K2, hK2⟩ := h n
    refine ⟨max K K2, fun k hk i hi => ?_⟩
    rcases Nat.lt_succ_iff_lt_or_eq.1 hi with e | e
    · exact hK k (by omega) i e
    · subst e; exact hK2 k (by omega)
theorem allB_congr {a b : Nat → Int} {n : Nat} (h : ∀ i, i < n → a i = b i) : G.allB a n = G.allB b n := by
  unfold G.allB
  rw [decide_eq_decide]
  exact ⟨fun h2 j hj => (h j hj) ▸ h2 j hj, fun h2 j hj => (h j hj).symm ▸ h2 j hj⟩
theorem codeParts (l : List S41) {p : Prop} (_hp : p) : ∃ k, G.tallowlaw20_CodeParts.f k l = some true := by
  by_cases hg : l.length = 0 ∨ 10 < l.length
  · exact ⟨0, by unfold G.tallowlaw20_CodeParts.f; rw [if_pos hg]⟩
  obtain ⟨K, hK⟩ := c_check l
  obtain ⟨K2, hK2⟩ := Ev.all (g := fun i k => code_Check.f k (G.qL l i)) (fun i => c_check (G.qL l i)) l.length
  refine ⟨max K K2, ?_⟩
  unfold G.tallowlaw20_CodeParts.f
  rw [if_neg hg, show code_Check.f (max K K2) l = some (checkS l) from hK _ (by omega)]
  show (if _ then _ else _) = _
  have h2 := hK2 (max K K2) (by omega)
  rw [if_pos]
  refine ⟨List.all_eq_true.2 (fun i hi => ?_), ?_⟩
  · rw [h2 i (List.mem_range.1 hi)]; rfl
  · rw [allB_congr (b := fun i => checkS (G.qL l i)) (fun i hi => by rw [h2 i hi]; rfl)]
    exact parts_eq l (by omega) (by omega)
end Go.Proofs.Ytpdcedmnkkiekaa.Z
end
