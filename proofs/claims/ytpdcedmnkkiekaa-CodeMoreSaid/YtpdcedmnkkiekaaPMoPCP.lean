import Derived.Test.YtpdcedmnkkiekaaPMoPC
import Derived.Test.YtpdcedmnkkiekaaPMoGxF6
set_option linter.unusedVariables false
set_option linter.unusedSimpArgs false
section
namespace Go.Proofs.Ytpdcedmnkkiekaa.Z
open Go.RowKit Go.Proofs.Ytpdcedmnkkiekaa.G Go.Proofs.YtpdcedmnkkiekaaW.PrintWords Go.Proofs.YtpdcedmnkkiekaaW.PrintLast Go.Proofs.YtpdcedmnkkiekaaW.PrintMore
set_option linter.unusedVariables false
set_option linter.unusedSimpArgs false
theorem go_zero (l : List S41) : ∀ (r : List S41) (i : Nat), checkS.go l r i = 0 ↔ ∀ j (h : j < r.length), protoS r[j].f0 r[j].f1 r[j].f2 r[j].f3 r[j].f4 (i + j == 0) l.length = 0
  | [], i => by simp [checkS.go]
  | x :: r, i => by
    unfold checkS.go
    constructor
    · intro h j hj
      by_cases he : protoS x.f0 x.f1 x.f2 x.f3 x.f4 (i == 0) l.length = 0
      · rw [if_pos he] at h
        rcases j with _ | j
        · simpa using he
        · have h2 := (go_zero l r (i + 1)).1 h j (by simpa using hj)
          simpa [show i + (j + 1) = i + 1 + j by omega] using h2
      · rw [if_neg he] at h
        exact absurd h he
    · intro h
      have he : protoS x.f0 x.f1 x.f2 x.f3 x.f4 (i == 0) l.length = 0 := h 0 (Nat.zero_lt_succ _)
      rw [if_pos he]
      refine (go_zero l r (i + 1)).2 (fun j hj => ?_)
      have h2 := h (j + 1) (by simpa using hj)
      simpa [show i + (j + 1) = i + 1 + j by omega] using h2
def okAt (x : S41) (i n : Nat) : Prop := protoS x.f0 x.f1 x.f2 x.f3 x.f4 (i == 0) n = 0
theorem checkS_zero (l : List S41) : checkS l = 0 ↔ 0 < l.length ∧ l.length ≤ 256 ∧ ∀ j (h : j < l.length), okAt l[j] j l.length := by
  unfold checkS
  by_cases h0 : l.length = 0
  · rw [if_pos h0]; constructor
    · intro h; cases h
    · intro h; omega
  rw [if_neg h0]
  by_cases h1 : l.length > 256
  · rw [if_pos h1]; constructor
    · intro h; cases h
    · intro h; omega
  rw [if_neg h1, go_zero]
  constructor
  · intro h
    exact ⟨by omega, by omega, fun j hj => by have := h j hj; simpa [okAt] using this⟩
  · intro h j hj
    have := h.2.2 j hj
    simpa [okAt] using this
theorem Ev.all {g : Nat → Nat → Option Int} {r : Nat → Int} (h : ∀ i, Ev (g i) (r i)) : ∀ n, ∃ K, ∀ k, K ≤ k → ∀ i, i < n → g i k = some (r i)
  | 0 => ⟨0, fun _ _ i hi => by omega⟩
  | n + 1 => by
    obtain ⟨K, hK⟩ := Ev.all h n
    obtain ⟨K2, hK2⟩ := h n
    refine ⟨max K K2, fun k hk i hi => ?_⟩
    rcases Nat.lt_succ_iff_lt_or_eq.1 hi with e | e
    · exact hK k (by omega) i e
    · subst e; exact hK2 k (by omega)
end Go.Proofs.Ytpdcedmnkkiekaa.Z
end
