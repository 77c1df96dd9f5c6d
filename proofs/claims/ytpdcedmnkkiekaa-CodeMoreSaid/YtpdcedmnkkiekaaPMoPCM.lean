import Derived.Test.YtpdcedmnkkiekaaPMoPCP
import Derived.Test.YtpdcedmnkkiekaaPMoGxF7
set_option linter.unusedVariables false
set_option linter.unusedSimpArgs false
section
namespace Go.Proofs.Ytpdcedmnkkiekaa.Z
open Go.RowKit Go.Proofs.Ytpdcedmnkkiekaa.G Go.Proofs.YtpdcedmnkkiekaaW.PrintWords Go.Proofs.YtpdcedmnkkiekaaW.PrintLast Go.Proofs.YtpdcedmnkkiekaaW.PrintMore
set_option linter.unusedVariables false
set_option linter.unusedSimpArgs false
theorem insK_mono {g nu nc nc' : Nat} {regs regs' protos protos' a b : Int} {cs : List S46} (h : insK g regs nu nc cs protos a b = true) (h0 : 0 ≤ regs) (h1 : regs ≤ regs') (h2 : regs' ≤ 250) (h3 : nc ≤ nc') (h4 : protos ≤ protos') : insK g regs' nu nc' cs protos' a b = true := by
  have w1 := w_sm (x := regs - 1) (by omega)
  have w1' := w_sm (x := regs' - 1) (by omega)
  have w2 := w_sm (x := regs - 2) (by omega)
  have w2' := w_sm (x := regs' - 2) (by omega)
  unfold insK at h ⊢
  rw [w1, w2] at h
  rw [w1', w2']
  clear w1 w1' w2 w2'
  by_cases e0 : g = 0
  · rw [if_pos e0] at h ⊢
    simp only [Bool.and_eq_true, decide_eq_true_eq, beq_iff_eq] at h ⊢
    omega
  rw [if_neg e0] at h ⊢
  by_cases e1 : g = 1
  · rw [if_pos e1] at h ⊢
    simp only [Bool.and_eq_true, Bool.or_eq_true, decide_eq_true_eq, beq_iff_eq] at h ⊢
    omega
  rw [if_neg e1] at h ⊢
  by_cases e2 : g = 2
  · rw [if_pos e2] at h ⊢
    simp only [Bool.and_eq_true, decide_eq_true_eq, beq_iff_eq] at h ⊢
    omega
  rw [if_neg e2] at h ⊢
  by_cases e3 : g = 3
  · rw [if_pos e3] at h ⊢
    rw [Bool.and_eq_true, Bool.and_eq_true, decide_eq_true_eq, decide_eq_true_eq] at h ⊢
    exact ⟨by omega, h.2⟩
  rw [if_neg e3] at h ⊢
  by_cases e4 : g = 4
  · rw [if_pos e4] at h ⊢
    simp only [Bool.and_eq_true, decide_eq_true_eq, beq_iff_eq] at h ⊢
    omega
  rw [if_neg e4] at h ⊢
  by_cases e5 : g = 5
  · rw [if_pos e5] at h ⊢
    simp only [Bool.and_eq_true, decide_eq_true_eq, beq_iff_eq] at h ⊢
    omega
  rw [if_neg e5] at h ⊢
  by_cases e6 : g = 6
  · rw [if_pos e6] at h ⊢
    simp only [Bool.and_eq_true, decide_eq_true_eq, beq_iff_eq] at h ⊢
    omega
  rw [if_neg e6] at h ⊢
  by_cases e7 : g = 7
  · rw [if_pos e7] at h ⊢
    simp only [Bool.and_eq_true, decide_eq_true_eq, beq_iff_eq] at h ⊢
    omega
  rw [if_neg e7] at h ⊢
  by_cases e8 : g = 8
  · rw [if_pos e8] at h ⊢
    simp only [Bool.and_eq_true, decide_eq_true_eq, beq_iff_eq] at h ⊢
    omega
  rw [if_neg e8] at h ⊢
  by_cases e9 : g = 9
  · rw [if_pos e9] at h ⊢
    simp only [Bool.and_eq_true, decide_eq_true_eq, beq_iff_eq] at h ⊢
    omega
  rw [if_neg e9] at h ⊢
  by_cases e10 : g = 10
  · rw [if_pos e10] at h ⊢
    simp only [Bool.and_eq_true, decide_eq_true_eq, beq_iff_eq] at h ⊢
    omega
  rw [if_neg e10] at h ⊢
  by_cases e11 : g = 11
  · rw [if_pos e11] at h ⊢
    simp only [Bool.and_eq_true, decide_eq_true_eq] at h ⊢
    have e1 := w_sm (x := regs - b) (by omega)
    have e2 := w_sm (x := regs' - b) (by omega)
    rw [e1] at h
    rw [e2]
    omega
  rw [if_neg e11] at h ⊢
  by_cases e12 : g = 12
  · rw [if_pos e12] at h ⊢
    simp only [Bool.and_eq_true, decide_eq_true_eq, beq_iff_eq] at h ⊢
    omega
  rw [if_neg e12] at h ⊢
  by_cases e13 : g = 13
  · rw [if_pos e13] at h ⊢
    simp only [Bool.and_eq_true, decide_eq_true_eq, beq_iff_eq] at h ⊢
    omega
  rw [if_neg e13] at h ⊢
  by_cases e14 : g = 14
  · rw [if_pos e14] at h ⊢
    simp only [Bool.and_eq_true, decide_eq_true_eq, beq_iff_eq] at h ⊢
    omega
  rw [if_neg e14] at h ⊢
  cases h
theorem protoS_zero (p0 p1 : Int) (ups : List S48) (cs : List S46) (code : List S33) (first : Bool) (protos : Int) : protoS p0 p1 ups cs code first protos = 0 ↔
    (0 ≤ p0 ∧ p0 ≤ 20 ∧ p0 ≤ p1 ∧ p1 ≤ 250 ∧ ups.length ≤ 60 ∧ cs.length ≤ 4096 ∧ code.length ≤ 16384 ∧ ¬(first = true ∧ ups.length > 0)) ∧ ups.all okU = true ∧ cs.all okC = true ∧ cs.all smC = true ∧ 0 < code.length ∧ code.all (okI p1 ups cs code protos) = true := by
  unfold protoS
  by_cases a1 : p0 < 0 ∨ p1 < 0
  · rw [if_pos a1]; exact ⟨(fun h => by cases h), fun h => by omega⟩
  rw [if_neg a1]
  by_cases a2 : p0 > 20 ∨ p1 > 250 ∨ ups.length > 60 ∨ cs.length > 4096 ∨ code.length > 16384
  · rw [if_pos a2]; exact ⟨(fun h => by cases h), fun h => by omega⟩
  rw [if_neg a2]
  by_cases a3 : p0 > p1 ∨ (first = true ∧ ups.length > 0)
  · rw [if_pos a3]; exact ⟨(fun h => by cases h), fun h => (a3.elim (fun e => by omega) (fun e => h.1.2.2.2.2.2.2.2 e)).elim⟩
  rw [if_neg a3]
  by_cases a4 : ups.all okU = true
  · rw [if_pos a4]
    by_cases a5 : cs.all okC = true
    · rw [if_pos a5]
      by_cases a6 : cs.all smC = true
      · rw [if_pos a6]
        by_cases a7 : code.length = 0
        · rw [if_pos a7]; exact ⟨(fun h => by cases h), fun h => by omega⟩
        rw [if_neg a7]
        by_cases a8 : code.all (okI p1 ups cs code protos) = true
        · rw [if_pos a8]
          exact ⟨fun _ => ⟨⟨by omega, by omega, by omega, by omega, by omega, by omega, by omega, fun e => a3 (.inr e)⟩, a4, a5, a6, by omega, a8⟩, fun _ => rfl⟩
        · rw [if_neg a8]; exact ⟨(fun h => by cases h), fun h => absurd h.2.2.2.2.2 a8⟩
      · rw [if_neg a6]; exact ⟨(fun h => by cases h), fun h => absurd h.2.2.2.1 a6⟩
    · rw [if_neg a5]; exact ⟨(fun h => by cases h), fun h => absurd h.2.2.1 a5⟩
  · rw [if_neg a4]; exact ⟨(fun h => by cases h), fun h => absurd h.2.1 a4⟩
theorem okAt_more {x : S41} {i n : Nat} (h : okAt x i n) : okAt x i (n + 1) := by
  unfold okAt at h ⊢
  rw [protoS_zero] at h ⊢
  refine ⟨h.1, h.2.1, h.2.2.1, h.2.2.2.1, h.2.2.2.2.1, ?_⟩
  have h6 := h.2.2.2.2.2
  rw [List.all_eq_true] at h6 ⊢
  exact fun y hy => insK_mono (h6 y hy) (by omega) (Int.le_refl _) (by omega) (Nat.le_refl _) (by omega)
theorem okAt_moreF {x : S41} {i n : Nat} {m : Int} (h : okAt x i n) (hm : 0 ≤ m) (h1 : x.f1 + m ≤ 250) (h2 : ¬ x.f1 = 0) (h3 : x.f4.length < 16384) : okAt ⟨x.f0, x.f1 + m, x.f2, x.f3, x.f4 ++ [⟨5, 0, 0⟩]⟩ i (n + 1) := by
  unfold okAt at h ⊢
  rw [protoS_zero] at h ⊢
  obtain ⟨⟨g0, g1, g2, g3, g4, g5, g6, g7⟩, a1, a2, a3, a4, a5⟩ := h
  have hl : (x.f4 ++ [(⟨5, 0, 0⟩ : S33)]).length = x.f4.length + 1 := by simp
  refine ⟨⟨g0, g1, by show x.f0 ≤ x.f1 + m; omega, h1, g4, g5, by show (x.f4 ++ [(⟨5, 0, 0⟩ : S33)]).length ≤ 16384; omega, g7⟩, a1, a2, a3, by show 0 < (x.f4 ++ [(⟨5, 0, 0⟩ : S33)]).length; omega, ?_⟩
  show (x.f4 ++ [(⟨5, 0, 0⟩ : S33)]).all (okI (x.f1 + m) x.f2 x.f3 (x.f4 ++ [(⟨5, 0, 0⟩ : S33)]) ((n + 1 : Nat) : Int)) = true
  rw [List.all_append, Bool.and_eq_true]
  constructor
  · rw [List.all_eq_true] at a5 ⊢
    exact fun y hy => insK_mono (a5 y hy) (by omega) (by omega) h1 (by rw [hl]; omega) (by omega)
  · simp only [List.all_cons, List.all_nil, Bool.and_true]
    unfold okI
    rw [show grpOf 5 = 0 from rfl]
    unfold insK
    simp only [if_true, beq_self_eq_true, Bool.and_true, decide_eq_true_eq]
    omega
theorem P1_ok (i n : Nat) : okAt G.P1 i n := by
  unfold okAt G.P1
  rw [protoS_zero]
  refine ⟨by simp, by simp, by simp, by simp, by simp, ?_⟩
  simp [okI, insK, grpOf]
theorem rd41' (l : List S41) (i : Nat) (h : i < l.length) : rd_T41 l (i : Int) = l[i] := rd41 l i h
theorem more_zero (l : List S41) (mo : Int) (i : Nat) (hi : i < l.length) (hm : 0 ≤ mo) (hc : checkS l = 0) (h1 : (rd_T41 l (i : Int)).f1 + mo % 16 ≤ 250) (h2 : ¬ (rd_T41 l (i : Int)).f1 = 0) (h3 : (rd_T41 l (i : Int)).f4.length < 16384) (h4 : l.length < 256) : checkS (G.moreL l mo i) = 0 := by
  obtain ⟨_, _, hk⟩ := (checkS_zero l).1 hc
  have hlen : (G.moreL l mo i).length = l.length + 1 := by simp [G.moreL]
  rw [checkS_zero]
  refine ⟨by omega, by omega, fun j hj => ?_⟩
  have hj' : j < l.length + 1 := by omega
  have hget : (G.moreL l mo i)[j] = if e : j = l.length then G.P1 else if j = i then G.moreF l mo i else l[j]'(by omega) := by
    have h5 : (l.set i (G.moreF l mo i) ++ [G.P1])[j]'(by simp; omega) = if e : j = l.length then G.P1 else if j = i then G.moreF l mo i else l[j]'(by omega) := by
      rw [List.getElem_append]
      by_cases e : j = l.length
      · rw [dif_neg (by simp; omega), dif_pos e]; simp [e]
      · rw [dif_pos (by simp; omega), dif_neg e, List.getElem_set]
        by_cases e2 : i = j
        · rw [if_pos e2, if_pos e2.symm]
        · rw [if_neg e2, if_neg (fun h => e2 h.symm)]
    exact h5
  rw [hget, hlen]
  by_cases e : j = l.length
  · rw [dif_pos e]; exact P1_ok _ _
  rw [dif_neg e]
  by_cases e2 : j = i
  · rw [if_pos e2]
    subst e2
    have hx := hk j (by omega)
    unfold G.moreF
    rw [rd41' l j (by omega)] at h1 h2 h3 ⊢
    exact okAt_moreF hx (Int.emod_nonneg _ (by decide)) h1 h2 h3
  · rw [if_neg e2]
    exact okAt_more (hk j (by omega))
theorem u8_ok2 {n : Int} (h : (Lit.int .u8 n).wf = true) : 0 ≤ n ∧ n < 256 := by
  simp only [Lit.wf, Bool.and_eq_true, decide_eq_true_eq] at h
  have e0 : IntKind.u8.min = 0 := rfl
  have e1 : IntKind.u8.max = 255 := rfl
  rw [e0, e1] at h
  omega
theorem codeMore (l : List S41) (mo : Int) {p : Prop} (_hp : p) (hm : (Lit.int .u8 mo).wf = true) : ∃ k, G.tallowlaw20_CodeMore.f k l mo = some true := by
  have hu := u8_ok2 hm
  obtain ⟨K, hK⟩ := c_check l
  by_cases hz : checkS l = 0
  · obtain ⟨a1, a2, a3⟩ := (checkS_zero l).1 hz
    have hi : G.atM l mo < l.length := by
      unfold G.atM
      have := Int.emod_lt_of_pos mo (show (0 : Int) < (l.length : Int) by omega)
      have := Int.emod_nonneg mo (show (l.length : Int) ≠ 0 by omega)
      omega
    have hx := a3 _ hi
    unfold okAt at hx
    rw [protoS_zero, ← rd41' l _ hi] at hx
    obtain ⟨⟨g0, g1, g2, g3, g4, g5, g6, g7⟩, b1, b2, b3, b4, b5⟩ := hx
    by_cases he : ((rd_T41 l (G.atM l mo)).f1 + mo % 16 > 250 ∨ (rd_T41 l (G.atM l mo)).f1 = 0 ∨ (rd_T41 l (G.atM l mo)).f4.length ≥ 16384 ∨ l.length ≥ 256)
    · refine ⟨K, ?_⟩
      unfold G.tallowlaw20_CodeMore.f
      rw [show code_Check.f K l = some (checkS l) from hK K (Nat.le_refl _), hz, Option.bind_some, if_pos rfl, if_pos ⟨a1, a2, by omega, g3, g6, by omega, by omega⟩, if_pos he]
    · have hq := more_zero l mo _ hi (by omega) hz (by omega) (by omega) (by omega) (by omega)
      obtain ⟨K2, hK2⟩ := c_check (G.moreL l mo (G.atM l mo))
      have hin : ∀ x ∈ l, inB x := fun x hx => by
        obtain ⟨j, hj, rfl⟩ := List.getElem_of_mem hx
        have h2 := a3 j hj
        unfold okAt at h2
        rw [protoS_zero] at h2
        exact ⟨by omega, by omega, by omega⟩
      obtain ⟨K3, hK3⟩ := c_Same l (G.moreL l mo (G.atM l mo)) (by omega) hin
      have hs : sameL l (G.moreL l mo (G.atM l mo)) = false := by
        unfold sameL
        rw [decide_eq_false (by simp [G.moreL])]; rfl
      refine ⟨max K (max K2 K3), ?_⟩
      unfold G.tallowlaw20_CodeMore.f
      rw [show code_Check.f (max K (max K2 K3)) l = some (checkS l) from hK _ (by omega), hz, Option.bind_some, if_pos rfl, if_pos ⟨a1, a2, by omega, g3, g6, by omega, by omega⟩, if_neg he, show code_Check.f (max K (max K2 K3)) (G.moreL l mo (G.atM l mo)) = some (checkS (G.moreL l mo (G.atM l mo))) from hK2 _ (by omega), hq,
        show code_Same.f (max K (max K2 K3)) l (G.moreL l mo (G.atM l mo)) = some (sameL l (G.moreL l mo (G.atM l mo))) from hK3 _ (by omega), hs]
      rfl
  · refine ⟨K, ?_⟩
    unfold G.tallowlaw20_CodeMore.f
    rw [show code_Check.f K l = some (checkS l) from hK K (Nat.le_refl _), Option.bind_some, if_neg hz]
end Go.Proofs.Ytpdcedmnkkiekaa.Z
end
